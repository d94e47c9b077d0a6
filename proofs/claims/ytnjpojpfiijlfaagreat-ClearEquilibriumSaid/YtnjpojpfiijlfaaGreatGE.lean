/-
Contracts of calculate, Add, Sub and Mul of package frac. Contracts of Add, Sub, Mul, FromInt64, Canonical of package frac: the results are the rational sum, difference, product. Contracts of FromInt64, Canonical, Sign, Cmp, Equal, Min and Floor of package frac. Contracts of Cmp, Equal, Min and Floor of package frac. Contract of Floor of package frac at whole numbers, and WOK at 2^62. No statement of the seat is proved here; no conditions beyond those of each theorem.
-/
import Derived.Test.YtnjpojpfiijlfaaGreatGD
namespace Go.Proofs.YtnjpojpfiijlfaaGreat
set_option linter.unusedVariables false
set_option linter.unusedSimpArgs false
open Go.RowKit
open Wd

/-- All blocks but g are as in W, and g is still a box of four cells. -/
def RG4 (g : Nat) (t : TypeId) (W w' : World) : Prop := W.grownBy w' (some g) ∧ ∃ x y z u, Blk w' g t #[x, y, z, u]
section
variable {g : Nat} {t : TypeId} {W w w' : World}
theorem RG4.start {x y z u : Value} (h : Blk W g t #[x, y, z, u]) : RG4 g t W W := ⟨⟨rfl, rfl, rfl, Nat.le_refl _, fun _ _ _ => rfl⟩, x, y, z, u, h⟩
theorem RG4.drew (h : RG4 g t W w) : RG4 g t W w.drew := ⟨⟨h.1.os, h.1.tape, h.1.output, h.1.size, h.1.block⟩, h.2⟩
theorem RG4.call (h : RG4 g t W w) (hb : Below w.heap.size w w') : RG4 g t W w' := by
  obtain ⟨h1, x, y, z, u, h2⟩ := h
  exact ⟨⟨hb.os.trans h1.os, hb.tape.trans h1.tape, hb.output.trans h1.output, Nat.le_trans h1.size hb.size, fun k hk hne => (hb.block k (Nat.lt_of_lt_of_le hk h1.size)).trans (h1.block k hk hne)⟩, x, y, z, u, h2.below hb h2.lt⟩
theorem RG4.set (h : RG4 g t W w) (a b c d : Value) : RG4 g t W ((((w.setCell ⟨g, 0, none⟩ a).setCell ⟨g, 1, none⟩ b).setCell ⟨g, 2, none⟩ c).setCell ⟨g, 3, none⟩ d) := by
  obtain ⟨h1, x, y, z, u, h2⟩ := h
  refine ⟨⟨h1.os, h1.tape, h1.output, by simpa [World.setCell] using h1.size, fun k hk hne => ?_⟩, a, b, c, d, h2.set4 a b c d⟩
  have hkg : k ≠ g := fun e => hne (by rw [e])
  rw [Below.heap_setCell _ _ _ _ (by simpa using hkg), Below.heap_setCell _ _ _ _ (by simpa using hkg), Below.heap_setCell _ _ _ _ (by simpa using hkg), Below.heap_setCell _ _ _ _ (by simpa using hkg)]
  exact h1.block k hk hne
theorem RG4.blk {g' : Nat} {t' : TypeId} {cs : Array Value} (h : RG4 g t W w) (hg : Blk W g' t' cs) (hne : g' ≠ g) : Blk w g' t' cs := (h.1.block g' hg.lt (fun e => hne (by injection e))).trans hg
theorem RG4.four (h : RG4 g t W w) : ∃ x y z u, w.cell? ⟨g, 0, none⟩ = some x ∧ w.cell? ⟨g, 1, none⟩ = some y ∧ w.cell? ⟨g, 2, none⟩ = some z ∧ w.cell? ⟨g, 3, none⟩ = some u ∧
    w.frozen? ⟨g, 0, none⟩ = false ∧ w.frozen? ⟨g, 1, none⟩ = false ∧ w.frozen? ⟨g, 2, none⟩ = false ∧ w.frozen? ⟨g, 3, none⟩ = false := by
  obtain ⟨_, x, y, z, u, h2⟩ := h
  exact ⟨x, y, z, u, h2.four⟩
theorem RG4.below {B : Nat} (h : RG4 g t W w) (hB : B ≤ W.heap.size) (hg : B ≤ g) : Below B W w :=
  ⟨h.1.os, h.1.tape, h.1.output, h.1.size, fun k hk => h.1.block k (by omega) (fun e => by injection e with e; omega)⟩
theorem RG4.rs (h : RG4 g t W w) (hg : g ≤ W.heap.size) : RS4 g t W w := ⟨h.below hg (Nat.le_refl _), h.2⟩
end
theorem Wat.grown {g : Nat} {W w : World} {A : Option Addr} {n : Nat} {l : List Nat} (h : Wat W A n l) (hg : W.grownBy w (some g)) (hne : ∀ b o, A = some ⟨b, o, none⟩ → b ≠ g) : Wat w A n l := by
  refine ⟨h.1, h.2.1, fun hn => ?_⟩
  obtain ⟨b, o, rfl, hb, hc⟩ := h.2.2 hn
  refine ⟨b, o, rfl, Nat.lt_of_lt_of_le hb hg.size, fun j hj => ?_⟩
  rw [World.cell?_of_block (w := W) (hg.block b hb (fun e => hne b o rfl (by injection e)))]
  exact hc j hj

/-- A rational operand in memory: four cells that read as numerator and denominator. -/
def QIn (w : World) (neg : Bool) (A : Option Addr) (n c : Nat) (neg' : Bool) (A' : Option Addr) (n' c' : Nat) (na da : Int) : Prop :=
  ∃ l l', Wat w A n l ∧ Wat w A' n' l' ∧ n ≤ c ∧ n' ≤ c' ∧ n ≤ 10000000000 ∧ n' ≤ 10000000000 ∧ sg neg (val l) = na ∧ sg neg' (val l') = da
theorem QIn.below {w w' : World} {neg neg' : Bool} {A A' : Option Addr} {n c n' c' : Nat} {na da : Int} (h : QIn w neg A n c neg' A' n' c' na da) (hb : Below w.heap.size w w') : QIn w' neg A n c neg' A' n' c' na da := by
  obtain ⟨l, l', h1, h2, h3⟩ := h
  exact ⟨l, l', h1.below hb, h2.below hb, h3⟩
theorem parts_in {w : World} {neg neg' : Bool} {A A' : Option Addr} {n c n' c' : Nat} {na da : Int} (h : QIn w neg A n c neg' A' n' c' na da) :
    Calls Tryz.prog 105 #[.agg #[.bool neg, .slice A n c, .bool neg', .slice A' n' c']] w (RetParts w (qnum na da) (qden da)) := by
  obtain ⟨l, l', h1, h2, h3, h4, h5, h6, rfl, rfl⟩ := h
  exact parts_any neg neg' A A' n n' c c' l l' w h1 h2 h3 h4 h5 h6
theorem short_in {w : World} {neg neg' : Bool} {A A' : Option Addr} {n c n' c' : Nat} {na da : Int} (h : QIn w neg A n c neg' A' n' c' na da) :
    Calls Tryz.prog 110 #[.agg #[.bool neg, .slice A n c, .bool neg', .slice A' n' c']] w (ShortPost w na da) := by
  obtain ⟨l, l', h1, h2, h3, h4, h5, h6, rfl, rfl⟩ := h
  exact short_any neg neg' A A' n n' c c' l l' w h1 h2 h3 h4 h5 h6
theorem reduce_in {M : Nat} (HO : WOK M) {w : World} {z1 z2 : Int} {B1 B2 : Option Addr} {j1 d1 j2 d2 : Nat} (h1 : Wat w B1 j1 (digs z1.natAbs)) (hd1 : j1 ≤ d1) (h2 : Wat w B2 j2 (digs z2.natAbs)) (hd2 : j2 ≤ d2) (hz1 : z1.natAbs < M) (hz2 : z2.natAbs < M) (hpos : 0 < z2) :
    Calls Tryz.prog 130 #[.agg #[.bool (decide (z1 < 0)), .slice B1 j1 d1], .agg #[.bool (decide (z2 < 0)), .slice B2 j2 d2]] w (RetQ w (mkRat z1 z2.natAbs)) := by
  have := reduce_any M HO (decide (z1 < 0)) (decide (z2 < 0)) B1 B2 j1 j2 d1 d2 _ _ w h1 h2 hd1 hd2 (by rw [← h1.1]; exact HO.len _ hz1) (by rw [← h2.1]; exact HO.len _ hz2) (by rw [val_digs]; exact hz1) (by rw [val_digs]; exact hz2) (by rw [val_digs, sg_self]; exact hpos)
  rwa [val_digs, val_digs, sg_self] at this


set_option maxRecDepth 100000 in
set_option maxHeartbeats 8000000 in
theorem calc_add (M : Nat) (HO : WOK M) (an an' bn bn' : Bool) (aA aA' bA bA' : Option Addr) (ak ac ak' ac' bk bc bk' bc' : Nat) (na da nb db : Int) (w : World)
    (ha : QIn w an aA ak ac an' aA' ak' ac' na da) (hb : QIn w bn bA bk bc bn' bA' bk' bc' nb db) (hm1 : (qnum na da * qden db).natAbs < M) (hm2 : (qnum nb db * qden da).natAbs < M) (hm3 : (qnum na da * qden db + qnum nb db * qden da).natAbs < M) (hm4 : (qden da * qden db).natAbs < M) :
    Calls Tryz.prog 112 #[.int .u8 43, .agg #[.bool an, .slice aA ak ac, .bool an', .slice aA' ak' ac'], .agg #[.bool bn, .slice bA bk bc, .bool bn', .slice bA' bk' bc']] w (RetQ w (mkRat (qnum na da * qden db + qnum nb db * qden da) (qden da * qden db).natAbs)) := by
  have hp : 0 < qden da * qden db := Int.mul_pos (qden_pos da) (qden_pos db)
  have hO := fun (m1 m2 m3 m4 : Bool) (B1 B2 B3 B4 : Option Addr) (j1 j2 j3 j4 d1 d2 d3 d4 : Nat) (r1 r2 r3 r4 : List Nat) (w : World)
    (h1 : ZIn w m1 B1 j1 d1 r1 (qnum na da)) (h2 : ZIn w m2 B2 j2 d2 r2 (qden da)) (h3 : ZIn w m3 B3 j3 d3 r3 (qnum nb db)) (h4 : ZIn w m4 B4 j4 d4 r4 (qden db)) => op_add M HO m1 m2 m3 m4 B1 B2 B3 B4 j1 j2 j3 j4 d1 d2 d3 d4 r1 r2 r3 r4 _ _ _ _ w h1 h2 h3 h4 hm1 hm2
  have hR := fun (w : World) (B1 B2 : Option Addr) (j1 d1 j2 d2 : Nat) (h1 : Wat w B1 j1 (digs (qnum na da * qden db + qnum nb db * qden da).natAbs)) (hd1 : j1 ≤ d1) (h2 : Wat w B2 j2 (digs (qden da * qden db).natAbs)) (hd2 : j2 ≤ d2) => reduce_in HO h1 hd1 h2 hd2 hm3 hm4 hp
  have P1 := fun W hW => parts_in (w := W) (h := ha.below (w' := W) hW)
  have P2 := fun W hW => parts_in (w := W) (h := hb.below (w' := W) hW)
  generalize mkRat (qnum na da * qden db + qnum nb db * qden da) (qden da * qden db).natAbs = q at *
  generalize qnum na da * qden db + qnum nb db * qden da = zn at *
  generalize qden da * qden db = zd at *
  generalize qnum na da = x1 at *
  generalize qden da = x2 at *
  generalize qnum nb db = x3 at *
  generalize qden db = x4 at *
  have HO' := Lib.hid hO
  have HR := Lib.hid hR
  have P1 := Lib.hid P1
  have P2 := Lib.hid P2
  have hfld := field_op
  clear hO hR hm3 hm4 hp ha hb HO hm1 hm2
  go_enter Tryz.func112, Tryz.ntmps112
  go_wp2_with fail
  have hB0 := ((Blk.new w 42 #[.bool an, .slice aA ak ac, .bool an', .slice aA' ak' ac']).alloc (.cells #[.bool bn, .slice bA bk bc, .bool bn', .slice bA' bk' bc'] 42)).alloc (.cells #[.bool false, .slice none 0 0, .bool false, .slice none 0 0] 42)
  have hB1 := (Blk.new1 w (.cells #[.bool an, .slice aA ak ac, .bool an', .slice aA' ak' ac'] 42) 42 #[.bool bn, .slice bA bk bc, .bool bn', .slice bA' bk' bc']).alloc (.cells #[.bool false, .slice none 0 0, .bool false, .slice none 0 0] 42)
  have hB2 := Blk.new2 w (.cells #[.bool an, .slice aA ak ac, .bool an', .slice aA' ak' ac'] 42) (.cells #[.bool bn, .slice bA bk bc, .bool bn', .slice bA' bk' bc'] 42) 42 #[.bool false, .slice none 0 0, .bool false, .slice none 0 0]
  have hBW : Below w.heap.size w (((w.alloc (.cells #[.bool an, .slice aA ak ac, .bool an', .slice aA' ak' ac'] 42)).alloc (.cells #[.bool bn, .slice bA bk bc, .bool bn', .slice bA' bk' bc'] 42)).alloc (.cells #[.bool false, .slice none 0 0, .bool false, .slice none 0 0] 42)) := (((Below.refl _ _).alloc (Nat.le_refl _) _).alloc (by simp only [World.size_alloc]; omega) _).alloc (by simp only [World.size_alloc]; omega) _
  have hsz : (((w.alloc (.cells #[.bool an, .slice aA ak ac, .bool an', .slice aA' ak' ac'] 42)).alloc (.cells #[.bool bn, .slice bA bk bc, .bool bn', .slice bA' bk' bc'] 42)).alloc (.cells #[.bool false, .slice none 0 0, .bool false, .slice none 0 0] 42)).heap.size = w.heap.size + 1 + 1 + 1 := by simp
  generalize ((w.alloc (.cells #[.bool an, .slice aA ak ac, .bool an', .slice aA' ak' ac'] 42)).alloc (.cells #[.bool bn, .slice bA bk bc, .bool bn', .slice bA' bk' bc'] 42)).alloc (.cells #[.bool false, .slice none 0 0, .bool false, .slice none 0 0] 42) = W at *
  have HSZ := Lib.hid hsz
  clear hsz
  refine (P1.out W hBW).mono ?_
  rintro e w1 ⟨m1, B1, j1, d1, r1, m2, B2, j2, d2, r2, rfl, hj1, hj2, hl1, hl2, hW1, hW2, hs1, hs2, hb1⟩
  have hB0 := hB0.below hb1 hB0.lt
  have hB1 := hB1.below hb1 hB1.lt
  have hB2 := hB2.below hb1 hB2.lt
  have hBW : Below w.heap.size w w1 := hBW.trans (hb1.mono hBW.size)
  have Z1 : ZIn w1 m1 B1 j1 d1 r1 x1 := ⟨hW1, hj1, hl1, hs1⟩
  have Z2 : ZIn w1 m2 B2 j2 d2 r2 x2 := ⟨hW2, hj2, hl2, hs2⟩
  have hz1 : w.heap.size + 1 + 1 + 1 ≤ w1.heap.size := hB2.lt
  have hB1 := (hB1.alloc (.cells #[.bool m1, .slice B1 j1 d1] 40)).alloc (.cells #[.bool m2, .slice B2 j2 d2] 40)
  have hB2 := (hB2.alloc (.cells #[.bool m1, .slice B1 j1 d1] 40)).alloc (.cells #[.bool m2, .slice B2 j2 d2] 40)
  obtain ⟨c0, c1, c2, c3, -, -, -, -⟩ := hB1.four
  clear hW1 hW2 hs1 hs2 hb1 hB0 HSZ P1
  go_wp2_with fail
  clear c0 c1 c2 c3
  have hC0 := (Blk.new w1 40 #[.bool m1, .slice B1 j1 d1]).alloc (.cells #[.bool m2, .slice B2 j2 d2] 40)
  have hC1 := Blk.new1 w1 (.cells #[.bool m1, .slice B1 j1 d1] 40) 40 #[.bool m2, .slice B2 j2 d2]
  have hBa : Below w1.heap.size w1 ((w1.alloc (.cells #[.bool m1, .slice B1 j1 d1] 40)).alloc (.cells #[.bool m2, .slice B2 j2 d2] 40)) := ((Below.refl _ _).alloc (Nat.le_refl _) _).alloc (by simp only [World.size_alloc]; omega) _
  have hsz : ((w1.alloc (.cells #[.bool m1, .slice B1 j1 d1] 40)).alloc (.cells #[.bool m2, .slice B2 j2 d2] 40)).heap.size = w1.heap.size + 1 + 1 := by simp
  generalize (w1.alloc (.cells #[.bool m1, .slice B1 j1 d1] 40)).alloc (.cells #[.bool m2, .slice B2 j2 d2] 40) = Wa at *
  have HSA := Lib.hid hsz
  clear hsz
  have hBa' : Below w.heap.size w Wa := hBW.trans (hBa.mono hBW.size)
  have Z1 := Z1.below hBa
  have Z2 := Z2.below hBa
  refine (P2.out Wa hBa').mono ?_
  rintro e w2 ⟨m3, B3, j3, d3, r3, m4, B4, j4, d4, r4, rfl, hj3, hj4, hl3, hl4, hW3, hW4, hs3, hs4, hb2⟩
  have hB2 := hB2.below hb2 hB2.lt
  have hC0 := hC0.below hb2 hC0.lt
  have hC1 := hC1.below hb2 hC1.lt
  have Z1 := Z1.below hb2
  have Z2 := Z2.below hb2
  have hz2 : Wa.heap.size ≤ w2.heap.size := hb2.size
  have hBb : Below w.heap.size w w2 := hBa'.trans (hb2.mono hBa'.size)
  have Z3 : ZIn w2 m3 B3 j3 d3 r3 x3 := ⟨hW3, hj3, hl3, hs3⟩
  have Z4 : ZIn w2 m4 B4 j4 d4 r4 x4 := ⟨hW4, hj4, hl4, hs4⟩
  have hza : w1.heap.size + 1 + 1 ≤ w2.heap.size := by have := HSA.out; omega
  clear hW3 hW4 hs3 hs4 hb2 hB1 P2 hBa hBa' hBW hz2
  go_wp2_with fail
  have hB2 := (hB2.alloc (.cells #[.bool m3, .slice B3 j3 d3] 40)).alloc (.cells #[.bool m4, .slice B4 j4 d4] 40)
  have hC0 := (hC0.alloc (.cells #[.bool m3, .slice B3 j3 d3] 40)).alloc (.cells #[.bool m4, .slice B4 j4 d4] 40)
  have hC1 := (hC1.alloc (.cells #[.bool m3, .slice B3 j3 d3] 40)).alloc (.cells #[.bool m4, .slice B4 j4 d4] 40)
  have hD0 := (Blk.new w2 40 #[.bool m3, .slice B3 j3 d3]).alloc (.cells #[.bool m4, .slice B4 j4 d4] 40)
  have hD1 := Blk.new1 w2 (.cells #[.bool m3, .slice B3 j3 d3] 40) 40 #[.bool m4, .slice B4 j4 d4]
  have hBc : Below w2.heap.size w2 ((w2.alloc (.cells #[.bool m3, .slice B3 j3 d3] 40)).alloc (.cells #[.bool m4, .slice B4 j4 d4] 40)) := ((Below.refl _ _).alloc (Nat.le_refl _) _).alloc (by simp only [World.size_alloc]; omega) _
  have hsz : ((w2.alloc (.cells #[.bool m3, .slice B3 j3 d3] 40)).alloc (.cells #[.bool m4, .slice B4 j4 d4] 40)).heap.size = w2.heap.size + 1 + 1 := by simp
  generalize (w2.alloc (.cells #[.bool m3, .slice B3 j3 d3] 40)).alloc (.cells #[.bool m4, .slice B4 j4 d4] 40) = Wb at *
  have HSB := Lib.hid hsz
  clear hsz
  have hBW : Below w.heap.size w Wb := hBb.trans (hBc.mono hBb.size)
  have hZ : ∀ w', Below Wb.heap.size Wb w' → ZIn w' m1 B1 j1 d1 r1 x1 ∧ ZIn w' m2 B2 j2 d2 r2 x2 ∧ ZIn w' m3 B3 j3 d3 r3 x3 ∧ ZIn w' m4 B4 j4 d4 r4 x4 := fun w' hb => ⟨(Z1.below hBc).below hb, (Z2.below hBc).below hb, (Z3.below hBc).below hb, (Z4.below hBc).below hb⟩
  have HZ := Lib.hid hZ
  have hzb : w2.heap.size + 1 + 1 = Wb.heap.size := HSB.out.symm
  have HZB := Lib.hid hzb
  clear hZ Z1 Z2 Z3 Z4 hBc hBb HSB hzb
  have s4 := RG4.start hB2
  have s5 := Kp.refl Wb
  have hS : ∀ w', RG4 (w.heap.size + 1 + 1) 42 Wb w' → (w'.cell? ⟨w1.heap.size, 0, none⟩ = some (.bool m1) ∧ w'.cell? ⟨w1.heap.size, 1, none⟩ = some (.slice B1 j1 d1) ∧ w'.cell? ⟨w1.heap.size + 1, 0, none⟩ = some (.bool m2) ∧ w'.cell? ⟨w1.heap.size + 1, 1, none⟩ = some (.slice B2 j2 d2) ∧ w'.cell? ⟨w2.heap.size, 0, none⟩ = some (.bool m3) ∧ w'.cell? ⟨w2.heap.size, 1, none⟩ = some (.slice B3 j3 d3) ∧ w'.cell? ⟨w2.heap.size + 1, 0, none⟩ = some (.bool m4) ∧ w'.cell? ⟨w2.heap.size + 1, 1, none⟩ = some (.slice B4 j4 d4)) ∧ RG4 (w.heap.size + 1 + 1) 42 Wb w' := fun w' hk => ⟨⟨(hk.blk hC0 (by omega)).cell 0, (hk.blk hC0 (by omega)).cell 1, (hk.blk hC1 (by omega)).cell 0, (hk.blk hC1 (by omega)).cell 1, (hk.blk hD0 (by omega)).cell 0, (hk.blk hD0 (by omega)).cell 1, (hk.blk hD1 (by omega)).cell 0, (hk.blk hD1 (by omega)).cell 1⟩, hk⟩
  have HS := Lib.hid hS
  clear hS
  clear hB2 hC0 hC1 hD0 hD1
  go_region_held3 (fun w' => (w'.cell? ⟨w1.heap.size, 0, none⟩ = some (.bool m1) ∧ w'.cell? ⟨w1.heap.size, 1, none⟩ = some (.slice B1 j1 d1) ∧ w'.cell? ⟨w1.heap.size + 1, 0, none⟩ = some (.bool m2) ∧ w'.cell? ⟨w1.heap.size + 1, 1, none⟩ = some (.slice B2 j2 d2) ∧ w'.cell? ⟨w2.heap.size, 0, none⟩ = some (.bool m3) ∧ w'.cell? ⟨w2.heap.size, 1, none⟩ = some (.slice B3 j3 d3) ∧ w'.cell? ⟨w2.heap.size + 1, 0, none⟩ = some (.bool m4) ∧ w'.cell? ⟨w2.heap.size + 1, 1, none⟩ = some (.slice B4 j4 d4)) ∧ RG4 (w.heap.size + 1 + 1) 42 Wb w')
    (first | (with_reducible refine HS.out _ ?_; with_reducible assumption) | (with_reducible refine HS.out _ (RG4.drew ?_); with_reducible assumption) | (with_reducible refine' HS.out _ (RG4.drew (And.right ?_)); rotate_left; with_reducible assumption) | (with_reducible refine' HS.out _ (RG4.set (And.right ?_) _ _ _ _); rotate_left; with_reducible assumption))
    (first
      | (go_at_call 159; have hk := And.right ‹_ ∧ RG4 (w.heap.size + 1 + 1) 42 Wb _›; refine (operations_any _).mono ?_; rintro e v1 ⟨rfl, hmap, hb1⟩; have hr1 := hk.call hb1; have hlk := look_add v1 Wb.heap.size hmap; have hp1 : Kp Wb v1 := Kp.trans (Kp.drew s5) hb1; clear hmap hb1)
      | (go_at_call 203; have hk := And.right ‹_ ∧ RG4 (w.heap.size + 1 + 1) 42 Wb _›; refine (HO'.out m1 m2 m3 m4 B1 B2 B3 B4 j1 j2 j3 j4 d1 d2 d3 d4 r1 r2 r3 r4 _ (HZ.out _ hp1).1 (HZ.out _ hp1).2.1 (HZ.out _ hp1).2.2.1 (HZ.out _ hp1).2.2.2).mono ?_; rintro e v2 ⟨X1, u1, y1, X2, u2, y2, rfl, hk1, hk2, hX1, hX2, hb2⟩; have hr2 := hk.call hb2; have hp2 : Kp Wb v2 := Kp.trans hp1 hb2; clear hb2)
      | (go_at_call 130; have hk := And.right ‹_ ∧ RG4 (w.heap.size + 1 + 1) 42 Wb _›; refine (HR.out _ X1 X2 u1 y1 u2 y2 hX1 hk1 hX2 hk2).mono ?_; rintro e v3 ⟨A3, k3, c3, A4, k4, c4, rfl, hk3, hk4, hW3, hW4, hF3, hF4, hb3⟩; have hz3 := Below.size hp2; have hr3 := hk.call hb3; obtain ⟨_, _, _, _, i0, i1, i2, i3, i4, i5, i6, i7⟩ := hr3.four))
  have hgw : w.heap.size + 1 + 1 < Wb.heap.size := by have := HZB.out; omega
  have hr4 := hr3.rs (Nat.le_of_lt hgw)
  have HSZ : Hid (True) := trivial
  have hfin := retQ_close hBW (by omega) (by have := HSZ.out; omega) hr4 hk3 hk4 hW3 hW4 hF3 hF4
  obtain ⟨d0, d1, d2, d3, -, -, -, -⟩ := (hr4.done (.bool (decide ((q).num < 0))) (.slice A3 k3 c3) (.bool false) (.slice A4 k4 c4)).four
  have HF := Lib.hid hfin
  clear hfin hr4 s5 hp1 hp2
  go_wp2
  refine bodyPost_ret (v := .agg #[.bool (decide ((q).num < 0)), .slice A3 k3 c3, .bool false, .slice A4 k4 c4]) ?_ rfl HF.out
  simp [results, Tryz.results112, go_sem, d0, d1, d2, d3]


set_option maxRecDepth 100000 in
set_option maxHeartbeats 8000000 in
theorem calc_sub (M : Nat) (HO : WOK M) (an an' bn bn' : Bool) (aA aA' bA bA' : Option Addr) (ak ac ak' ac' bk bc bk' bc' : Nat) (na da nb db : Int) (w : World)
    (ha : QIn w an aA ak ac an' aA' ak' ac' na da) (hb : QIn w bn bA bk bc bn' bA' bk' bc' nb db) (hm1 : (qnum na da * qden db).natAbs < M) (hm2 : (qnum nb db * qden da).natAbs < M) (hm3 : (qnum na da * qden db - qnum nb db * qden da).natAbs < M) (hm4 : (qden da * qden db).natAbs < M) :
    Calls Tryz.prog 112 #[.int .u8 45, .agg #[.bool an, .slice aA ak ac, .bool an', .slice aA' ak' ac'], .agg #[.bool bn, .slice bA bk bc, .bool bn', .slice bA' bk' bc']] w (RetQ w (mkRat (qnum na da * qden db - qnum nb db * qden da) (qden da * qden db).natAbs)) := by
  have hp : 0 < qden da * qden db := Int.mul_pos (qden_pos da) (qden_pos db)
  have hO := fun (m1 m2 m3 m4 : Bool) (B1 B2 B3 B4 : Option Addr) (j1 j2 j3 j4 d1 d2 d3 d4 : Nat) (r1 r2 r3 r4 : List Nat) (w : World)
    (h1 : ZIn w m1 B1 j1 d1 r1 (qnum na da)) (h2 : ZIn w m2 B2 j2 d2 r2 (qden da)) (h3 : ZIn w m3 B3 j3 d3 r3 (qnum nb db)) (h4 : ZIn w m4 B4 j4 d4 r4 (qden db)) => op_sub M HO m1 m2 m3 m4 B1 B2 B3 B4 j1 j2 j3 j4 d1 d2 d3 d4 r1 r2 r3 r4 _ _ _ _ w h1 h2 h3 h4 hm1 hm2
  have hR := fun (w : World) (B1 B2 : Option Addr) (j1 d1 j2 d2 : Nat) (h1 : Wat w B1 j1 (digs (qnum na da * qden db - qnum nb db * qden da).natAbs)) (hd1 : j1 ≤ d1) (h2 : Wat w B2 j2 (digs (qden da * qden db).natAbs)) (hd2 : j2 ≤ d2) => reduce_in HO h1 hd1 h2 hd2 hm3 hm4 hp
  have P1 := fun W hW => parts_in (w := W) (h := ha.below (w' := W) hW)
  have P2 := fun W hW => parts_in (w := W) (h := hb.below (w' := W) hW)
  generalize mkRat (qnum na da * qden db - qnum nb db * qden da) (qden da * qden db).natAbs = q at *
  generalize qnum na da * qden db - qnum nb db * qden da = zn at *
  generalize qden da * qden db = zd at *
  generalize qnum na da = x1 at *
  generalize qden da = x2 at *
  generalize qnum nb db = x3 at *
  generalize qden db = x4 at *
  have HO' := Lib.hid hO
  have HR := Lib.hid hR
  have P1 := Lib.hid P1
  have P2 := Lib.hid P2
  have hfld := field_op
  clear hO hR hm3 hm4 hp ha hb HO hm1 hm2
  go_enter Tryz.func112, Tryz.ntmps112
  go_wp2_with fail
  have hB0 := ((Blk.new w 42 #[.bool an, .slice aA ak ac, .bool an', .slice aA' ak' ac']).alloc (.cells #[.bool bn, .slice bA bk bc, .bool bn', .slice bA' bk' bc'] 42)).alloc (.cells #[.bool false, .slice none 0 0, .bool false, .slice none 0 0] 42)
  have hB1 := (Blk.new1 w (.cells #[.bool an, .slice aA ak ac, .bool an', .slice aA' ak' ac'] 42) 42 #[.bool bn, .slice bA bk bc, .bool bn', .slice bA' bk' bc']).alloc (.cells #[.bool false, .slice none 0 0, .bool false, .slice none 0 0] 42)
  have hB2 := Blk.new2 w (.cells #[.bool an, .slice aA ak ac, .bool an', .slice aA' ak' ac'] 42) (.cells #[.bool bn, .slice bA bk bc, .bool bn', .slice bA' bk' bc'] 42) 42 #[.bool false, .slice none 0 0, .bool false, .slice none 0 0]
  have hBW : Below w.heap.size w (((w.alloc (.cells #[.bool an, .slice aA ak ac, .bool an', .slice aA' ak' ac'] 42)).alloc (.cells #[.bool bn, .slice bA bk bc, .bool bn', .slice bA' bk' bc'] 42)).alloc (.cells #[.bool false, .slice none 0 0, .bool false, .slice none 0 0] 42)) := (((Below.refl _ _).alloc (Nat.le_refl _) _).alloc (by simp only [World.size_alloc]; omega) _).alloc (by simp only [World.size_alloc]; omega) _
  have hsz : (((w.alloc (.cells #[.bool an, .slice aA ak ac, .bool an', .slice aA' ak' ac'] 42)).alloc (.cells #[.bool bn, .slice bA bk bc, .bool bn', .slice bA' bk' bc'] 42)).alloc (.cells #[.bool false, .slice none 0 0, .bool false, .slice none 0 0] 42)).heap.size = w.heap.size + 1 + 1 + 1 := by simp
  generalize ((w.alloc (.cells #[.bool an, .slice aA ak ac, .bool an', .slice aA' ak' ac'] 42)).alloc (.cells #[.bool bn, .slice bA bk bc, .bool bn', .slice bA' bk' bc'] 42)).alloc (.cells #[.bool false, .slice none 0 0, .bool false, .slice none 0 0] 42) = W at *
  have HSZ := Lib.hid hsz
  clear hsz
  refine (P1.out W hBW).mono ?_
  rintro e w1 ⟨m1, B1, j1, d1, r1, m2, B2, j2, d2, r2, rfl, hj1, hj2, hl1, hl2, hW1, hW2, hs1, hs2, hb1⟩
  have hB0 := hB0.below hb1 hB0.lt
  have hB1 := hB1.below hb1 hB1.lt
  have hB2 := hB2.below hb1 hB2.lt
  have hBW : Below w.heap.size w w1 := hBW.trans (hb1.mono hBW.size)
  have Z1 : ZIn w1 m1 B1 j1 d1 r1 x1 := ⟨hW1, hj1, hl1, hs1⟩
  have Z2 : ZIn w1 m2 B2 j2 d2 r2 x2 := ⟨hW2, hj2, hl2, hs2⟩
  have hz1 : w.heap.size + 1 + 1 + 1 ≤ w1.heap.size := hB2.lt
  have hB1 := (hB1.alloc (.cells #[.bool m1, .slice B1 j1 d1] 40)).alloc (.cells #[.bool m2, .slice B2 j2 d2] 40)
  have hB2 := (hB2.alloc (.cells #[.bool m1, .slice B1 j1 d1] 40)).alloc (.cells #[.bool m2, .slice B2 j2 d2] 40)
  obtain ⟨c0, c1, c2, c3, -, -, -, -⟩ := hB1.four
  clear hW1 hW2 hs1 hs2 hb1 hB0 HSZ P1
  go_wp2_with fail
  clear c0 c1 c2 c3
  have hC0 := (Blk.new w1 40 #[.bool m1, .slice B1 j1 d1]).alloc (.cells #[.bool m2, .slice B2 j2 d2] 40)
  have hC1 := Blk.new1 w1 (.cells #[.bool m1, .slice B1 j1 d1] 40) 40 #[.bool m2, .slice B2 j2 d2]
  have hBa : Below w1.heap.size w1 ((w1.alloc (.cells #[.bool m1, .slice B1 j1 d1] 40)).alloc (.cells #[.bool m2, .slice B2 j2 d2] 40)) := ((Below.refl _ _).alloc (Nat.le_refl _) _).alloc (by simp only [World.size_alloc]; omega) _
  have hsz : ((w1.alloc (.cells #[.bool m1, .slice B1 j1 d1] 40)).alloc (.cells #[.bool m2, .slice B2 j2 d2] 40)).heap.size = w1.heap.size + 1 + 1 := by simp
  generalize (w1.alloc (.cells #[.bool m1, .slice B1 j1 d1] 40)).alloc (.cells #[.bool m2, .slice B2 j2 d2] 40) = Wa at *
  have HSA := Lib.hid hsz
  clear hsz
  have hBa' : Below w.heap.size w Wa := hBW.trans (hBa.mono hBW.size)
  have Z1 := Z1.below hBa
  have Z2 := Z2.below hBa
  refine (P2.out Wa hBa').mono ?_
  rintro e w2 ⟨m3, B3, j3, d3, r3, m4, B4, j4, d4, r4, rfl, hj3, hj4, hl3, hl4, hW3, hW4, hs3, hs4, hb2⟩
  have hB2 := hB2.below hb2 hB2.lt
  have hC0 := hC0.below hb2 hC0.lt
  have hC1 := hC1.below hb2 hC1.lt
  have Z1 := Z1.below hb2
  have Z2 := Z2.below hb2
  have hz2 : Wa.heap.size ≤ w2.heap.size := hb2.size
  have hBb : Below w.heap.size w w2 := hBa'.trans (hb2.mono hBa'.size)
  have Z3 : ZIn w2 m3 B3 j3 d3 r3 x3 := ⟨hW3, hj3, hl3, hs3⟩
  have Z4 : ZIn w2 m4 B4 j4 d4 r4 x4 := ⟨hW4, hj4, hl4, hs4⟩
  have hza : w1.heap.size + 1 + 1 ≤ w2.heap.size := by have := HSA.out; omega
  clear hW3 hW4 hs3 hs4 hb2 hB1 P2 hBa hBa' hBW hz2
  go_wp2_with fail
  have hB2 := (hB2.alloc (.cells #[.bool m3, .slice B3 j3 d3] 40)).alloc (.cells #[.bool m4, .slice B4 j4 d4] 40)
  have hC0 := (hC0.alloc (.cells #[.bool m3, .slice B3 j3 d3] 40)).alloc (.cells #[.bool m4, .slice B4 j4 d4] 40)
  have hC1 := (hC1.alloc (.cells #[.bool m3, .slice B3 j3 d3] 40)).alloc (.cells #[.bool m4, .slice B4 j4 d4] 40)
  have hD0 := (Blk.new w2 40 #[.bool m3, .slice B3 j3 d3]).alloc (.cells #[.bool m4, .slice B4 j4 d4] 40)
  have hD1 := Blk.new1 w2 (.cells #[.bool m3, .slice B3 j3 d3] 40) 40 #[.bool m4, .slice B4 j4 d4]
  have hBc : Below w2.heap.size w2 ((w2.alloc (.cells #[.bool m3, .slice B3 j3 d3] 40)).alloc (.cells #[.bool m4, .slice B4 j4 d4] 40)) := ((Below.refl _ _).alloc (Nat.le_refl _) _).alloc (by simp only [World.size_alloc]; omega) _
  have hsz : ((w2.alloc (.cells #[.bool m3, .slice B3 j3 d3] 40)).alloc (.cells #[.bool m4, .slice B4 j4 d4] 40)).heap.size = w2.heap.size + 1 + 1 := by simp
  generalize (w2.alloc (.cells #[.bool m3, .slice B3 j3 d3] 40)).alloc (.cells #[.bool m4, .slice B4 j4 d4] 40) = Wb at *
  have HSB := Lib.hid hsz
  clear hsz
  have hBW : Below w.heap.size w Wb := hBb.trans (hBc.mono hBb.size)
  have hZ : ∀ w', Below Wb.heap.size Wb w' → ZIn w' m1 B1 j1 d1 r1 x1 ∧ ZIn w' m2 B2 j2 d2 r2 x2 ∧ ZIn w' m3 B3 j3 d3 r3 x3 ∧ ZIn w' m4 B4 j4 d4 r4 x4 := fun w' hb => ⟨(Z1.below hBc).below hb, (Z2.below hBc).below hb, (Z3.below hBc).below hb, (Z4.below hBc).below hb⟩
  have HZ := Lib.hid hZ
  have hzb : w2.heap.size + 1 + 1 = Wb.heap.size := HSB.out.symm
  have HZB := Lib.hid hzb
  clear hZ Z1 Z2 Z3 Z4 hBc hBb HSB hzb
  have s4 := RG4.start hB2
  have s5 := Kp.refl Wb
  have hS : ∀ w', RG4 (w.heap.size + 1 + 1) 42 Wb w' → (w'.cell? ⟨w1.heap.size, 0, none⟩ = some (.bool m1) ∧ w'.cell? ⟨w1.heap.size, 1, none⟩ = some (.slice B1 j1 d1) ∧ w'.cell? ⟨w1.heap.size + 1, 0, none⟩ = some (.bool m2) ∧ w'.cell? ⟨w1.heap.size + 1, 1, none⟩ = some (.slice B2 j2 d2) ∧ w'.cell? ⟨w2.heap.size, 0, none⟩ = some (.bool m3) ∧ w'.cell? ⟨w2.heap.size, 1, none⟩ = some (.slice B3 j3 d3) ∧ w'.cell? ⟨w2.heap.size + 1, 0, none⟩ = some (.bool m4) ∧ w'.cell? ⟨w2.heap.size + 1, 1, none⟩ = some (.slice B4 j4 d4)) ∧ RG4 (w.heap.size + 1 + 1) 42 Wb w' := fun w' hk => ⟨⟨(hk.blk hC0 (by omega)).cell 0, (hk.blk hC0 (by omega)).cell 1, (hk.blk hC1 (by omega)).cell 0, (hk.blk hC1 (by omega)).cell 1, (hk.blk hD0 (by omega)).cell 0, (hk.blk hD0 (by omega)).cell 1, (hk.blk hD1 (by omega)).cell 0, (hk.blk hD1 (by omega)).cell 1⟩, hk⟩
  have HS := Lib.hid hS
  clear hS
  clear hB2 hC0 hC1 hD0 hD1
  go_region_held3 (fun w' => (w'.cell? ⟨w1.heap.size, 0, none⟩ = some (.bool m1) ∧ w'.cell? ⟨w1.heap.size, 1, none⟩ = some (.slice B1 j1 d1) ∧ w'.cell? ⟨w1.heap.size + 1, 0, none⟩ = some (.bool m2) ∧ w'.cell? ⟨w1.heap.size + 1, 1, none⟩ = some (.slice B2 j2 d2) ∧ w'.cell? ⟨w2.heap.size, 0, none⟩ = some (.bool m3) ∧ w'.cell? ⟨w2.heap.size, 1, none⟩ = some (.slice B3 j3 d3) ∧ w'.cell? ⟨w2.heap.size + 1, 0, none⟩ = some (.bool m4) ∧ w'.cell? ⟨w2.heap.size + 1, 1, none⟩ = some (.slice B4 j4 d4)) ∧ RG4 (w.heap.size + 1 + 1) 42 Wb w')
    (first | (with_reducible refine HS.out _ ?_; with_reducible assumption) | (with_reducible refine HS.out _ (RG4.drew ?_); with_reducible assumption) | (with_reducible refine' HS.out _ (RG4.drew (And.right ?_)); rotate_left; with_reducible assumption) | (with_reducible refine' HS.out _ (RG4.set (And.right ?_) _ _ _ _); rotate_left; with_reducible assumption))
    (first
      | (go_at_call 159; have hk := And.right ‹_ ∧ RG4 (w.heap.size + 1 + 1) 42 Wb _›; refine (operations_any _).mono ?_; rintro e v1 ⟨rfl, hmap, hb1⟩; have hr1 := hk.call hb1; have hlk := look_sub v1 Wb.heap.size hmap; have hp1 : Kp Wb v1 := Kp.trans (Kp.drew s5) hb1; clear hmap hb1)
      | (go_at_call 205; have hk := And.right ‹_ ∧ RG4 (w.heap.size + 1 + 1) 42 Wb _›; refine (HO'.out m1 m2 m3 m4 B1 B2 B3 B4 j1 j2 j3 j4 d1 d2 d3 d4 r1 r2 r3 r4 _ (HZ.out _ hp1).1 (HZ.out _ hp1).2.1 (HZ.out _ hp1).2.2.1 (HZ.out _ hp1).2.2.2).mono ?_; rintro e v2 ⟨X1, u1, y1, X2, u2, y2, rfl, hk1, hk2, hX1, hX2, hb2⟩; have hr2 := hk.call hb2; have hp2 : Kp Wb v2 := Kp.trans hp1 hb2; clear hb2)
      | (go_at_call 130; have hk := And.right ‹_ ∧ RG4 (w.heap.size + 1 + 1) 42 Wb _›; refine (HR.out _ X1 X2 u1 y1 u2 y2 hX1 hk1 hX2 hk2).mono ?_; rintro e v3 ⟨A3, k3, c3, A4, k4, c4, rfl, hk3, hk4, hW3, hW4, hF3, hF4, hb3⟩; have hz3 := Below.size hp2; have hr3 := hk.call hb3; obtain ⟨_, _, _, _, i0, i1, i2, i3, i4, i5, i6, i7⟩ := hr3.four))
  have hgw : w.heap.size + 1 + 1 < Wb.heap.size := by have := HZB.out; omega
  have hr4 := hr3.rs (Nat.le_of_lt hgw)
  have HSZ : Hid (True) := trivial
  have hfin := retQ_close hBW (by omega) (by have := HSZ.out; omega) hr4 hk3 hk4 hW3 hW4 hF3 hF4
  obtain ⟨d0, d1, d2, d3, -, -, -, -⟩ := (hr4.done (.bool (decide ((q).num < 0))) (.slice A3 k3 c3) (.bool false) (.slice A4 k4 c4)).four
  have HF := Lib.hid hfin
  clear hfin hr4 s5 hp1 hp2
  go_wp2
  refine bodyPost_ret (v := .agg #[.bool (decide ((q).num < 0)), .slice A3 k3 c3, .bool false, .slice A4 k4 c4]) ?_ rfl HF.out
  simp [results, Tryz.results112, go_sem, d0, d1, d2, d3]


set_option maxRecDepth 100000 in
set_option maxHeartbeats 8000000 in
theorem calc_mul (M : Nat) (HO : WOK M) (an an' bn bn' : Bool) (aA aA' bA bA' : Option Addr) (ak ac ak' ac' bk bc bk' bc' : Nat) (na da nb db : Int) (w : World)
    (ha : QIn w an aA ak ac an' aA' ak' ac' na da) (hb : QIn w bn bA bk bc bn' bA' bk' bc' nb db) (hm3 : (qnum na da * qnum nb db).natAbs < M) (hm4 : (qden da * qden db).natAbs < M) :
    Calls Tryz.prog 112 #[.int .u8 42, .agg #[.bool an, .slice aA ak ac, .bool an', .slice aA' ak' ac'], .agg #[.bool bn, .slice bA bk bc, .bool bn', .slice bA' bk' bc']] w (RetQ w (mkRat (qnum na da * qnum nb db) (qden da * qden db).natAbs)) := by
  have hp : 0 < qden da * qden db := Int.mul_pos (qden_pos da) (qden_pos db)
  have hO := fun (m1 m2 m3 m4 : Bool) (B1 B2 B3 B4 : Option Addr) (j1 j2 j3 j4 d1 d2 d3 d4 : Nat) (r1 r2 r3 r4 : List Nat) (w : World)
    (h1 : ZIn w m1 B1 j1 d1 r1 (qnum na da)) (h2 : ZIn w m2 B2 j2 d2 r2 (qden da)) (h3 : ZIn w m3 B3 j3 d3 r3 (qnum nb db)) (h4 : ZIn w m4 B4 j4 d4 r4 (qden db)) => op_mul M HO m1 m2 m3 m4 B1 B2 B3 B4 j1 j2 j3 j4 d1 d2 d3 d4 r1 r2 r3 r4 _ _ _ _ w h1 h2 h3 h4
  have hR := fun (w : World) (B1 B2 : Option Addr) (j1 d1 j2 d2 : Nat) (h1 : Wat w B1 j1 (digs (qnum na da * qnum nb db).natAbs)) (hd1 : j1 ≤ d1) (h2 : Wat w B2 j2 (digs (qden da * qden db).natAbs)) (hd2 : j2 ≤ d2) => reduce_in HO h1 hd1 h2 hd2 hm3 hm4 hp
  have P1 := fun W hW => parts_in (w := W) (h := ha.below (w' := W) hW)
  have P2 := fun W hW => parts_in (w := W) (h := hb.below (w' := W) hW)
  generalize mkRat (qnum na da * qnum nb db) (qden da * qden db).natAbs = q at *
  generalize qnum na da * qnum nb db = zn at *
  generalize qden da * qden db = zd at *
  generalize qnum na da = x1 at *
  generalize qden da = x2 at *
  generalize qnum nb db = x3 at *
  generalize qden db = x4 at *
  have HO' := Lib.hid hO
  have HR := Lib.hid hR
  have P1 := Lib.hid P1
  have P2 := Lib.hid P2
  have hfld := field_op
  clear hO hR hm3 hm4 hp ha hb HO
  go_enter Tryz.func112, Tryz.ntmps112
  go_wp2_with fail
  have hB0 := ((Blk.new w 42 #[.bool an, .slice aA ak ac, .bool an', .slice aA' ak' ac']).alloc (.cells #[.bool bn, .slice bA bk bc, .bool bn', .slice bA' bk' bc'] 42)).alloc (.cells #[.bool false, .slice none 0 0, .bool false, .slice none 0 0] 42)
  have hB1 := (Blk.new1 w (.cells #[.bool an, .slice aA ak ac, .bool an', .slice aA' ak' ac'] 42) 42 #[.bool bn, .slice bA bk bc, .bool bn', .slice bA' bk' bc']).alloc (.cells #[.bool false, .slice none 0 0, .bool false, .slice none 0 0] 42)
  have hB2 := Blk.new2 w (.cells #[.bool an, .slice aA ak ac, .bool an', .slice aA' ak' ac'] 42) (.cells #[.bool bn, .slice bA bk bc, .bool bn', .slice bA' bk' bc'] 42) 42 #[.bool false, .slice none 0 0, .bool false, .slice none 0 0]
  have hBW : Below w.heap.size w (((w.alloc (.cells #[.bool an, .slice aA ak ac, .bool an', .slice aA' ak' ac'] 42)).alloc (.cells #[.bool bn, .slice bA bk bc, .bool bn', .slice bA' bk' bc'] 42)).alloc (.cells #[.bool false, .slice none 0 0, .bool false, .slice none 0 0] 42)) := (((Below.refl _ _).alloc (Nat.le_refl _) _).alloc (by simp only [World.size_alloc]; omega) _).alloc (by simp only [World.size_alloc]; omega) _
  have hsz : (((w.alloc (.cells #[.bool an, .slice aA ak ac, .bool an', .slice aA' ak' ac'] 42)).alloc (.cells #[.bool bn, .slice bA bk bc, .bool bn', .slice bA' bk' bc'] 42)).alloc (.cells #[.bool false, .slice none 0 0, .bool false, .slice none 0 0] 42)).heap.size = w.heap.size + 1 + 1 + 1 := by simp
  generalize ((w.alloc (.cells #[.bool an, .slice aA ak ac, .bool an', .slice aA' ak' ac'] 42)).alloc (.cells #[.bool bn, .slice bA bk bc, .bool bn', .slice bA' bk' bc'] 42)).alloc (.cells #[.bool false, .slice none 0 0, .bool false, .slice none 0 0] 42) = W at *
  have HSZ := Lib.hid hsz
  clear hsz
  refine (P1.out W hBW).mono ?_
  rintro e w1 ⟨m1, B1, j1, d1, r1, m2, B2, j2, d2, r2, rfl, hj1, hj2, hl1, hl2, hW1, hW2, hs1, hs2, hb1⟩
  have hB0 := hB0.below hb1 hB0.lt
  have hB1 := hB1.below hb1 hB1.lt
  have hB2 := hB2.below hb1 hB2.lt
  have hBW : Below w.heap.size w w1 := hBW.trans (hb1.mono hBW.size)
  have Z1 : ZIn w1 m1 B1 j1 d1 r1 x1 := ⟨hW1, hj1, hl1, hs1⟩
  have Z2 : ZIn w1 m2 B2 j2 d2 r2 x2 := ⟨hW2, hj2, hl2, hs2⟩
  have hz1 : w.heap.size + 1 + 1 + 1 ≤ w1.heap.size := hB2.lt
  have hB1 := (hB1.alloc (.cells #[.bool m1, .slice B1 j1 d1] 40)).alloc (.cells #[.bool m2, .slice B2 j2 d2] 40)
  have hB2 := (hB2.alloc (.cells #[.bool m1, .slice B1 j1 d1] 40)).alloc (.cells #[.bool m2, .slice B2 j2 d2] 40)
  obtain ⟨c0, c1, c2, c3, -, -, -, -⟩ := hB1.four
  clear hW1 hW2 hs1 hs2 hb1 hB0 HSZ P1
  go_wp2_with fail
  clear c0 c1 c2 c3
  have hC0 := (Blk.new w1 40 #[.bool m1, .slice B1 j1 d1]).alloc (.cells #[.bool m2, .slice B2 j2 d2] 40)
  have hC1 := Blk.new1 w1 (.cells #[.bool m1, .slice B1 j1 d1] 40) 40 #[.bool m2, .slice B2 j2 d2]
  have hBa : Below w1.heap.size w1 ((w1.alloc (.cells #[.bool m1, .slice B1 j1 d1] 40)).alloc (.cells #[.bool m2, .slice B2 j2 d2] 40)) := ((Below.refl _ _).alloc (Nat.le_refl _) _).alloc (by simp only [World.size_alloc]; omega) _
  have hsz : ((w1.alloc (.cells #[.bool m1, .slice B1 j1 d1] 40)).alloc (.cells #[.bool m2, .slice B2 j2 d2] 40)).heap.size = w1.heap.size + 1 + 1 := by simp
  generalize (w1.alloc (.cells #[.bool m1, .slice B1 j1 d1] 40)).alloc (.cells #[.bool m2, .slice B2 j2 d2] 40) = Wa at *
  have HSA := Lib.hid hsz
  clear hsz
  have hBa' : Below w.heap.size w Wa := hBW.trans (hBa.mono hBW.size)
  have Z1 := Z1.below hBa
  have Z2 := Z2.below hBa
  refine (P2.out Wa hBa').mono ?_
  rintro e w2 ⟨m3, B3, j3, d3, r3, m4, B4, j4, d4, r4, rfl, hj3, hj4, hl3, hl4, hW3, hW4, hs3, hs4, hb2⟩
  have hB2 := hB2.below hb2 hB2.lt
  have hC0 := hC0.below hb2 hC0.lt
  have hC1 := hC1.below hb2 hC1.lt
  have Z1 := Z1.below hb2
  have Z2 := Z2.below hb2
  have hz2 : Wa.heap.size ≤ w2.heap.size := hb2.size
  have hBb : Below w.heap.size w w2 := hBa'.trans (hb2.mono hBa'.size)
  have Z3 : ZIn w2 m3 B3 j3 d3 r3 x3 := ⟨hW3, hj3, hl3, hs3⟩
  have Z4 : ZIn w2 m4 B4 j4 d4 r4 x4 := ⟨hW4, hj4, hl4, hs4⟩
  have hza : w1.heap.size + 1 + 1 ≤ w2.heap.size := by have := HSA.out; omega
  clear hW3 hW4 hs3 hs4 hb2 hB1 P2 hBa hBa' hBW hz2
  go_wp2_with fail
  have hB2 := (hB2.alloc (.cells #[.bool m3, .slice B3 j3 d3] 40)).alloc (.cells #[.bool m4, .slice B4 j4 d4] 40)
  have hC0 := (hC0.alloc (.cells #[.bool m3, .slice B3 j3 d3] 40)).alloc (.cells #[.bool m4, .slice B4 j4 d4] 40)
  have hC1 := (hC1.alloc (.cells #[.bool m3, .slice B3 j3 d3] 40)).alloc (.cells #[.bool m4, .slice B4 j4 d4] 40)
  have hD0 := (Blk.new w2 40 #[.bool m3, .slice B3 j3 d3]).alloc (.cells #[.bool m4, .slice B4 j4 d4] 40)
  have hD1 := Blk.new1 w2 (.cells #[.bool m3, .slice B3 j3 d3] 40) 40 #[.bool m4, .slice B4 j4 d4]
  have hBc : Below w2.heap.size w2 ((w2.alloc (.cells #[.bool m3, .slice B3 j3 d3] 40)).alloc (.cells #[.bool m4, .slice B4 j4 d4] 40)) := ((Below.refl _ _).alloc (Nat.le_refl _) _).alloc (by simp only [World.size_alloc]; omega) _
  have hsz : ((w2.alloc (.cells #[.bool m3, .slice B3 j3 d3] 40)).alloc (.cells #[.bool m4, .slice B4 j4 d4] 40)).heap.size = w2.heap.size + 1 + 1 := by simp
  generalize (w2.alloc (.cells #[.bool m3, .slice B3 j3 d3] 40)).alloc (.cells #[.bool m4, .slice B4 j4 d4] 40) = Wb at *
  have HSB := Lib.hid hsz
  clear hsz
  have hBW : Below w.heap.size w Wb := hBb.trans (hBc.mono hBb.size)
  have hZ : ∀ w', Below Wb.heap.size Wb w' → ZIn w' m1 B1 j1 d1 r1 x1 ∧ ZIn w' m2 B2 j2 d2 r2 x2 ∧ ZIn w' m3 B3 j3 d3 r3 x3 ∧ ZIn w' m4 B4 j4 d4 r4 x4 := fun w' hb => ⟨(Z1.below hBc).below hb, (Z2.below hBc).below hb, (Z3.below hBc).below hb, (Z4.below hBc).below hb⟩
  have HZ := Lib.hid hZ
  have hzb : w2.heap.size + 1 + 1 = Wb.heap.size := HSB.out.symm
  have HZB := Lib.hid hzb
  clear hZ Z1 Z2 Z3 Z4 hBc hBb HSB hzb
  have s4 := RG4.start hB2
  have s5 := Kp.refl Wb
  have hS : ∀ w', RG4 (w.heap.size + 1 + 1) 42 Wb w' → (w'.cell? ⟨w1.heap.size, 0, none⟩ = some (.bool m1) ∧ w'.cell? ⟨w1.heap.size, 1, none⟩ = some (.slice B1 j1 d1) ∧ w'.cell? ⟨w1.heap.size + 1, 0, none⟩ = some (.bool m2) ∧ w'.cell? ⟨w1.heap.size + 1, 1, none⟩ = some (.slice B2 j2 d2) ∧ w'.cell? ⟨w2.heap.size, 0, none⟩ = some (.bool m3) ∧ w'.cell? ⟨w2.heap.size, 1, none⟩ = some (.slice B3 j3 d3) ∧ w'.cell? ⟨w2.heap.size + 1, 0, none⟩ = some (.bool m4) ∧ w'.cell? ⟨w2.heap.size + 1, 1, none⟩ = some (.slice B4 j4 d4)) ∧ RG4 (w.heap.size + 1 + 1) 42 Wb w' := fun w' hk => ⟨⟨(hk.blk hC0 (by omega)).cell 0, (hk.blk hC0 (by omega)).cell 1, (hk.blk hC1 (by omega)).cell 0, (hk.blk hC1 (by omega)).cell 1, (hk.blk hD0 (by omega)).cell 0, (hk.blk hD0 (by omega)).cell 1, (hk.blk hD1 (by omega)).cell 0, (hk.blk hD1 (by omega)).cell 1⟩, hk⟩
  have HS := Lib.hid hS
  clear hS
  clear hB2 hC0 hC1 hD0 hD1
  go_region_held3 (fun w' => (w'.cell? ⟨w1.heap.size, 0, none⟩ = some (.bool m1) ∧ w'.cell? ⟨w1.heap.size, 1, none⟩ = some (.slice B1 j1 d1) ∧ w'.cell? ⟨w1.heap.size + 1, 0, none⟩ = some (.bool m2) ∧ w'.cell? ⟨w1.heap.size + 1, 1, none⟩ = some (.slice B2 j2 d2) ∧ w'.cell? ⟨w2.heap.size, 0, none⟩ = some (.bool m3) ∧ w'.cell? ⟨w2.heap.size, 1, none⟩ = some (.slice B3 j3 d3) ∧ w'.cell? ⟨w2.heap.size + 1, 0, none⟩ = some (.bool m4) ∧ w'.cell? ⟨w2.heap.size + 1, 1, none⟩ = some (.slice B4 j4 d4)) ∧ RG4 (w.heap.size + 1 + 1) 42 Wb w')
    (first | (with_reducible refine HS.out _ ?_; with_reducible assumption) | (with_reducible refine HS.out _ (RG4.drew ?_); with_reducible assumption) | (with_reducible refine' HS.out _ (RG4.drew (And.right ?_)); rotate_left; with_reducible assumption) | (with_reducible refine' HS.out _ (RG4.set (And.right ?_) _ _ _ _); rotate_left; with_reducible assumption))
    (first
      | (go_at_call 159; have hk := And.right ‹_ ∧ RG4 (w.heap.size + 1 + 1) 42 Wb _›; refine (operations_any _).mono ?_; rintro e v1 ⟨rfl, hmap, hb1⟩; have hr1 := hk.call hb1; have hlk := look_mul v1 Wb.heap.size hmap; have hp1 : Kp Wb v1 := Kp.trans (Kp.drew s5) hb1; clear hmap hb1)
      | (go_at_call 207; have hk := And.right ‹_ ∧ RG4 (w.heap.size + 1 + 1) 42 Wb _›; refine (HO'.out m1 m2 m3 m4 B1 B2 B3 B4 j1 j2 j3 j4 d1 d2 d3 d4 r1 r2 r3 r4 _ (HZ.out _ hp1).1 (HZ.out _ hp1).2.1 (HZ.out _ hp1).2.2.1 (HZ.out _ hp1).2.2.2).mono ?_; rintro e v2 ⟨X1, u1, y1, X2, u2, y2, rfl, hk1, hk2, hX1, hX2, hb2⟩; have hr2 := hk.call hb2; have hp2 : Kp Wb v2 := Kp.trans hp1 hb2; clear hb2)
      | (go_at_call 130; have hk := And.right ‹_ ∧ RG4 (w.heap.size + 1 + 1) 42 Wb _›; refine (HR.out _ X1 X2 u1 y1 u2 y2 hX1 hk1 hX2 hk2).mono ?_; rintro e v3 ⟨A3, k3, c3, A4, k4, c4, rfl, hk3, hk4, hW3, hW4, hF3, hF4, hb3⟩; have hz3 := Below.size hp2; have hr3 := hk.call hb3; obtain ⟨_, _, _, _, i0, i1, i2, i3, i4, i5, i6, i7⟩ := hr3.four))
  have hgw : w.heap.size + 1 + 1 < Wb.heap.size := by have := HZB.out; omega
  have hr4 := hr3.rs (Nat.le_of_lt hgw)
  have HSZ : Hid (True) := trivial
  have hfin := retQ_close hBW (by omega) (by have := HSZ.out; omega) hr4 hk3 hk4 hW3 hW4 hF3 hF4
  obtain ⟨d0, d1, d2, d3, -, -, -, -⟩ := (hr4.done (.bool (decide ((q).num < 0))) (.slice A3 k3 c3) (.bool false) (.slice A4 k4 c4)).four
  have HF := Lib.hid hfin
  clear hfin hr4 s5 hp1 hp2
  go_wp2
  refine bodyPost_ret (v := .agg #[.bool (decide ((q).num < 0)), .slice A3 k3 c3, .bool false, .slice A4 k4 c4]) ?_ rfl HF.out
  simp [results, Tryz.results112, go_sem, d0, d1, d2, d3]

end Go.Proofs.YtnjpojpfiijlfaaGreat

namespace Go.Proofs.YtnjpojpfiijlfaaGreat
set_option linter.unusedVariables false
set_option linter.unusedSimpArgs false
open Go.RowKit
open Wd

/-- A rational operand in memory that reads as q; its numerator is below Nn, its denominator below Nd. -/
def QAt (Nn Nd : Nat) (w : World) (neg : Bool) (A : Option Addr) (n c : Nat) (neg' : Bool) (A' : Option Addr) (n' c' : Nat) (q : Rat) : Prop :=
  ∃ na da, QIn w neg A n c neg' A' n' c' na da ∧ (qnum na da).natAbs < Nn ∧ (qden da).natAbs < Nd ∧ q = mkRat (qnum na da) (qden da).natAbs
theorem QAt.below {Nn Nd : Nat} {w w' : World} {neg neg' : Bool} {A A' : Option Addr} {n c n' c' : Nat} {q : Rat} (h : QAt Nn Nd w neg A n c neg' A' n' c' q) (hb : Below w.heap.size w w') : QAt Nn Nd w' neg A n c neg' A' n' c' q := by
  obtain ⟨na, da, h1, h2⟩ := h
  exact ⟨na, da, h1.below hb, h2⟩

/-- A canonical rational is such an operand. -/
theorem qat_canon {Nn Nd : Nat} {w : World} {A A' : Option Addr} {k c k' c' : Nat} {q : Rat} (hk : k ≤ c) (hk' : k' ≤ c') (hW : Wat w A k (digs q.num.natAbs)) (hW' : Wat w A' k' (denW q.den)) (hl : k ≤ 10000000000) (hl' : k' ≤ 10000000000) (hn : q.num.natAbs < Nn) (hd : q.den < Nd) :
    QAt Nn Nd w (decide (q.num < 0)) A k c false A' k' c' q := by
  by_cases h1 : q.den = 1
  · rw [h1, show denW 1 = [] from rfl] at hW'
    refine ⟨q.num, 0, ⟨_, _, hW, hW', hk, hk', hl, hl', by rw [val_digs, sg_self], rfl⟩, ?_, ?_, ?_⟩
    · unfold qnum; rw [if_neg (by omega)]; exact hn
    · rw [h1] at hd; exact hd
    · unfold qnum; rw [if_neg (by omega), show (qden 0).natAbs = 1 from rfl, ← h1, Rat.mkRat_self]
  · have hdw : denW q.den = digs q.den := by unfold denW; rw [if_neg h1]
    rw [hdw] at hW'
    have hdn := q.den_nz
    have hq : qden ((q.den : Nat) : Int) = q.den := by unfold qden; rw [if_neg (by omega), if_neg (by omega)]
    refine ⟨q.num, q.den, ⟨_, _, hW, hW', hk, hk', hl, hl', by rw [val_digs, sg_self], by rw [val_digs]; rfl⟩, ?_, ?_, ?_⟩
    · unfold qnum; rw [if_neg (by omega)]; exact hn
    · rw [hq, Int.natAbs_natCast]; exact hd
    · rw [hq, Int.natAbs_natCast]; unfold qnum; rw [if_neg (by omega), Rat.mkRat_self]

theorem small_mul {a b : Int} (ha : Small a) (hb : Small b) : -4611686014132420609 ≤ a * b ∧ a * b ≤ 4611686014132420609 := by
  have h1 : (a * b).natAbs = a.natAbs * b.natAbs := Int.natAbs_mul a b
  have h2 : a.natAbs * b.natAbs ≤ 2147483647 * 2147483647 := Nat.mul_le_mul (by unfold Small at ha; omega) (by unfold Small at hb; omega)
  omega
theorem small_num {na da : Int} (h : Small na) : Small (qnum na da) := by unfold qnum Small at *; split <;> omega
theorem small_den {da : Int} (h : Small da) : Small (qden da) := by unfold qden Small at *; split <;> (try split) <;> omega
theorem den_nz (da : Int) : (qden da).natAbs ≠ 0 := by have := qden_pos da; omega
theorem den_cast (da : Int) : ((qden da).natAbs : Int) = qden da := by have := qden_pos da; omega
theorem wrap_in (x : Int) (h1 : -9223372036854775807 ≤ x) (h2 : x ≤ 9223372036854775807) : IntKind.i64.wrap x = x ∧ wrap64 x = x := wrap_fit x ⟨h1, h2⟩

theorem rat_add (n1 n2 d1 d2 : Int) (h1 : 0 < d1) (h2 : 0 < d2) : mkRat n1 d1.natAbs + mkRat n2 d2.natAbs = mkRat (n1 * d2 + n2 * d1) (d1 * d2).natAbs := by
  rw [Rat.mkRat_add_mkRat _ _ (by omega) (by omega), Int.natAbs_mul, show ((d2.natAbs : Nat) : Int) = d2 by omega, show ((d1.natAbs : Nat) : Int) = d1 by omega]
theorem rat_sub (n1 n2 d1 d2 : Int) (h1 : 0 < d1) (h2 : 0 < d2) : mkRat n1 d1.natAbs - mkRat n2 d2.natAbs = mkRat (n1 * d2 - n2 * d1) (d1 * d2).natAbs := by
  rw [Rat.sub_eq_add_neg, Rat.neg_mkRat, rat_add _ _ _ _ h1 h2, Int.neg_mul, Int.sub_eq_add_neg]
theorem rat_mul (n1 n2 d1 d2 : Int) : mkRat n1 d1.natAbs * mkRat n2 d2.natAbs = mkRat (n1 * n2) (d1 * d2).natAbs := by
  rw [Rat.mkRat_mul_mkRat, Int.natAbs_mul]

theorem bound_mul {a b : Int} {N K M : Nat} (ha : a.natAbs < N) (hb : b.natAbs < K) (h : N * K ≤ M) : (a * b).natAbs < M := by
  rw [Int.natAbs_mul]
  rcases Nat.eq_zero_or_pos b.natAbs with h0 | h0
  · rw [h0, Nat.mul_zero]
    have : 0 < N * K := Nat.mul_pos (by omega) (by omega)
    omega
  · exact Nat.lt_of_lt_of_le (Nat.lt_of_lt_of_le (Nat.mul_lt_mul_of_pos_right ha h0) (Nat.mul_le_mul_left N (Nat.le_of_lt hb))) h
theorem bound_mul2 {a b : Int} {N K M : Nat} (ha : a.natAbs < N) (hb : b.natAbs < K) (h : 2 * (N * K) ≤ M) : 2 * (a * b).natAbs < M := by
  have := bound_mul (M := N * K) ha hb (Nat.le_refl _)
  omega


set_option maxRecDepth 100000 in
set_option maxHeartbeats 8000000 in
theorem qadd_any (M Nn Nd : Nat) (HO : WOK M) (hnd : 2 * (Nn * Nd) ≤ M) (hdd : Nd * Nd ≤ M) (an an' bn bn' : Bool) (aA aA' bA bA' : Option Addr) (ak ac ak' ac' bk bc bk' bc' : Nat) (qa qb : Rat) (w : World)
    (ha : QAt Nn Nd w an aA ak ac an' aA' ak' ac' qa) (hb : QAt Nn Nd w bn bA bk bc bn' bA' bk' bc' qb) :
    Calls Tryz.prog 57 #[.agg #[.bool an, .slice aA ak ac, .bool an', .slice aA' ak' ac'], .agg #[.bool bn, .slice bA bk bc, .bool bn', .slice bA' bk' bc']] w (RetQ w (qa + qb)) := by
  obtain ⟨na, da, hia, hna, hda, rfl⟩ := ha
  obtain ⟨nb, db, hib, hnb, hdb, rfl⟩ := hb
  rw [rat_add _ _ _ _ (qden_pos da) (qden_pos db)]
  have S1 := fun W hW => short_in (w := W) (h := hia.below (w' := W) hW)
  have S2 := fun W hW => short_in (w := W) (h := hib.below (w' := W) hW)
  have hC := fun W (hW : Below w.heap.size w W) => calc_add M HO an an' bn bn' aA aA' bA bA' ak ac ak' ac' bk bc bk' bc' na da nb db W (hia.below hW) (hib.below hW) (by have := bound_mul2 hna hdb hnd; omega) (by have := bound_mul2 hnb hda hnd; omega) (by have h1 := bound_mul2 hna hdb hnd; have h2 := bound_mul2 hnb hda hnd; omega) (bound_mul hda hdb hdd)
  have hsm : Small na ∧ Small da → Small nb ∧ Small db → Small (qnum na da) ∧ Small (qden da) ∧ Small (qnum nb db) ∧ Small (qden db) := fun h1 h2 => ⟨small_num h1.1, small_den h1.2, small_num h2.1, small_den h2.2⟩
  have hp1 := qden_pos da
  have hp2 := qden_pos db
  unfold ShortPost at S1 S2
  generalize qnum na da = x1 at *
  generalize qden da = x2 at *
  generalize qnum nb db = x3 at *
  generalize qden db = x4 at *
  have S1 := Lib.hid S1
  have S2 := Lib.hid S2
  have HC := Lib.hid hC
  have HSM := Lib.hid hsm
  clear hC hsm hna hda hnb hdb
  go_enter Tryz.func57, Tryz.ntmps57
  go_wp2_with fail
  have hB0 := ((Blk.new w 42 #[.bool an, .slice aA ak ac, .bool an', .slice aA' ak' ac']).alloc (.cells #[.bool bn, .slice bA bk bc, .bool bn', .slice bA' bk' bc'] 42)).alloc (.cells #[.bool false, .slice none 0 0, .bool false, .slice none 0 0] 42)
  have hB1 := (Blk.new1 w (.cells #[.bool an, .slice aA ak ac, .bool an', .slice aA' ak' ac'] 42) 42 #[.bool bn, .slice bA bk bc, .bool bn', .slice bA' bk' bc']).alloc (.cells #[.bool false, .slice none 0 0, .bool false, .slice none 0 0] 42)
  have hB2 := Blk.new2 w (.cells #[.bool an, .slice aA ak ac, .bool an', .slice aA' ak' ac'] 42) (.cells #[.bool bn, .slice bA bk bc, .bool bn', .slice bA' bk' bc'] 42) 42 #[.bool false, .slice none 0 0, .bool false, .slice none 0 0]
  have hBW : Below w.heap.size w (((w.alloc (.cells #[.bool an, .slice aA ak ac, .bool an', .slice aA' ak' ac'] 42)).alloc (.cells #[.bool bn, .slice bA bk bc, .bool bn', .slice bA' bk' bc'] 42)).alloc (.cells #[.bool false, .slice none 0 0, .bool false, .slice none 0 0] 42)) := (((Below.refl _ _).alloc (Nat.le_refl _) _).alloc (by simp only [World.size_alloc]; omega) _).alloc (by simp only [World.size_alloc]; omega) _
  have hsz : (((w.alloc (.cells #[.bool an, .slice aA ak ac, .bool an', .slice aA' ak' ac'] 42)).alloc (.cells #[.bool bn, .slice bA bk bc, .bool bn', .slice bA' bk' bc'] 42)).alloc (.cells #[.bool false, .slice none 0 0, .bool false, .slice none 0 0] 42)).heap.size = w.heap.size + 1 + 1 + 1 := by simp
  generalize ((w.alloc (.cells #[.bool an, .slice aA ak ac, .bool an', .slice aA' ak' ac'] 42)).alloc (.cells #[.bool bn, .slice bA bk bc, .bool bn', .slice bA' bk' bc'] 42)).alloc (.cells #[.bool false, .slice none 0 0, .bool false, .slice none 0 0] 42) = W at *
  have HSZ := Lib.hid hsz
  clear hsz
  refine (S1.out W hBW).mono ?_
  rintro e w1 ⟨hs1, hb1⟩
  have hB0 := hB0.below hb1 hB0.lt
  have hB1 := hB1.below hb1 hB1.lt
  have hB2 := hB2.below hb1 hB2.lt
  have hb1 : Below w.heap.size w w1 := hBW.trans (hb1.mono hBW.size)
  obtain ⟨c0, c1, c2, c3, -, -, -, -⟩ := hB1.four
  clear hBW HSZ S1
  have T2 := S2.out w1 hb1
  have T2 := Lib.hid T2
  rcases hs1 with ⟨hsa, hsa', rfl⟩ | ⟨hsa, rfl⟩
  · have HSA := Lib.hid (And.intro hsa hsa')
    clear hsa hsa'
    go_wp2_with fail
    refine T2.out.mono ?_
    rintro e w2 ⟨hs2, hb2⟩
    have hB0 := hB0.below hb2 hB0.lt
    have hB1 := hB1.below hb2 hB1.lt
    have hB2 := hB2.below hb2 hB2.lt
    have hb2 : Below w.heap.size w w2 := hb1.trans (hb2.mono hb1.size)
    have hz2 : w.heap.size + 1 + 1 + 1 ≤ w2.heap.size := hB2.lt
    clear c0 c1 c2 c3 hb1 S2 T2
    rcases hs2 with ⟨hsb, hsb', rfl⟩ | ⟨hsb, rfl⟩
    · obtain ⟨h1, h2, h3, h4⟩ := HSM.out HSA.out ⟨hsb, hsb'⟩
      have k1 := small_mul h1 h4
      have k2 := small_mul h3 h2
      have k3 := small_mul h2 h4
      have hdp : 0 < x2 * x4 := Int.mul_pos hp1 hp2
      have e1 : (x2 * x4).toNat = (x2 * x4).natAbs := by omega
      have hR := fun W => ratio_any (x1 * x4 + x3 * x2) (x2 * x4) W (by unfold Fit63; omega) hdp (by omega)
      rw [e1] at hR
      generalize mkRat (x1 * x4 + x3 * x2) (x2 * x4).natAbs = q at *
      have v1 := wrap_in (x1 * x4) (by omega) (by omega)
      have v2 := wrap_in (x3 * x2) (by omega) (by omega)
      have v3 := wrap_in (x2 * x4) (by omega) (by omega)
      have v4 := wrap_in (x1 * x4 + x3 * x2) (by omega) (by omega)
      obtain ⟨v1, v1'⟩ := v1
      obtain ⟨v2, v2'⟩ := v2
      obtain ⟨v3, v3'⟩ := v3
      obtain ⟨v4, v4'⟩ := v4
      have HR := Lib.hid hR
      clear k1 k2 k3 hdp e1 h1 h2 h3 h4 hsb hsb' HSA HSM HC hR
      go_wp2_with fail
      refine (HR.out w2).mono ?_
      clear v1 v2 v3 v4 v1' v2' v3' v4'
      rintro e w3 ⟨A3, k3, c3, A4, k4, c4, rfl, hk3, hk4, hW3, hW4, hF3, hF4, hb3⟩
      have hr3 := (RS4.start hB2).call hb3
      obtain ⟨_, _, _, _, i0, i1, i2, i3, i4, i5, i6, i7⟩ := hr3.four
      have hBW := hb2
      have HSZ : Hid True := trivial
      have hfin := retQ_close hBW (by omega) (by have := HSZ.out; omega) hr3 hk3 hk4 hW3 hW4 hF3 hF4
      obtain ⟨d0, d1, d2, d3, -, -, -, -⟩ := (hr3.done (.bool (decide ((q).num < 0))) (.slice A3 k3 c3) (.bool false) (.slice A4 k4 c4)).four
      have HF := Lib.hid hfin
      clear hfin hB0 hB1 hB2 HSZ
      go_wp2
      refine bodyPost_ret (v := .agg #[.bool (decide ((q).num < 0)), .slice A3 k3 c3, .bool false, .slice A4 k4 c4]) ?_ rfl HF.out
      simp [results, Tryz.results57, go_sem, d0, d1, d2, d3]
    · have HSB := Lib.hid hsb
      obtain ⟨c0, c1, c2, c3, -, -, -, -⟩ := hB0.four
      obtain ⟨e0, e1, e2, e3, -, -, -, -⟩ := hB1.four
      clear hsb HSB HSA HSM
      go_wp2_with fail
      refine (HC.out w2 hb2).mono ?_
      generalize mkRat (x1 * x4 + x3 * x2) (x2 * x4).natAbs = q at *
      rintro e w3 ⟨A3, k3, c3, A4, k4, c4, rfl, hk3, hk4, hW3, hW4, hF3, hF4, hb3⟩
      have hr3 := (RS4.start hB2).call hb3
      obtain ⟨_, _, _, _, i0, i1, i2, i3, i4, i5, i6, i7⟩ := hr3.four
      have hBW := hb2
      have HSZ : Hid True := trivial
      have hfin := retQ_close hBW (by omega) (by have := HSZ.out; omega) hr3 hk3 hk4 hW3 hW4 hF3 hF4
      obtain ⟨d0, d1, d2, d3, -, -, -, -⟩ := (hr3.done (.bool (decide ((q).num < 0))) (.slice A3 k3 c3) (.bool false) (.slice A4 k4 c4)).four
      have HF := Lib.hid hfin
      clear hfin hB0 hB1 hB2 HSZ c0 c1 c2 e0 e1 e2 e3
      go_wp2
      refine bodyPost_ret (v := .agg #[.bool (decide ((q).num < 0)), .slice A3 k3 c3, .bool false, .slice A4 k4 c4]) ?_ rfl HF.out
      simp [results, Tryz.results57, go_sem, d0, d1, d2, d3]
  · have HSA := Lib.hid hsa
    clear hsa
    go_wp2_with fail
    refine T2.out.mono ?_
    rintro e w2 ⟨hs2, hb2⟩
    have hB0 := hB0.below hb2 hB0.lt
    have hB1 := hB1.below hb2 hB1.lt
    have hB2 := hB2.below hb2 hB2.lt
    have hb2 : Below w.heap.size w w2 := hb1.trans (hb2.mono hb1.size)
    have hz2 : w.heap.size + 1 + 1 + 1 ≤ w2.heap.size := hB2.lt
    clear c0 c1 c2 c3 hb1 S2 T2
    have hs3 : (∃ y1 y2 y3, e = .returned (.tuple #[.int .i64 y1, .int .i64 y2, .bool y3])) := by
      rcases hs2 with ⟨_, _, rfl⟩ | ⟨_, rfl⟩
      · exact ⟨_, _, _, rfl⟩
      · exact ⟨_, _, _, rfl⟩
    obtain ⟨y1, y2, y3, rfl⟩ := hs3
    clear hs2
    obtain ⟨c0, c1, c2, c3, -, -, -, -⟩ := hB0.four
    obtain ⟨e0, e1, e2, e3, -, -, -, -⟩ := hB1.four
    clear HSA HSM
    go_wp2_with fail
    refine (HC.out w2 hb2).mono ?_
    generalize mkRat (x1 * x4 + x3 * x2) (x2 * x4).natAbs = q at *
    rintro e w3 ⟨A3, k3, c3, A4, k4, c4, rfl, hk3, hk4, hW3, hW4, hF3, hF4, hb3⟩
    have hr3 := (RS4.start hB2).call hb3
    obtain ⟨_, _, _, _, i0, i1, i2, i3, i4, i5, i6, i7⟩ := hr3.four
    have hBW := hb2
    have HSZ : Hid True := trivial
    have hfin := retQ_close hBW (by omega) (by have := HSZ.out; omega) hr3 hk3 hk4 hW3 hW4 hF3 hF4
    obtain ⟨d0, d1, d2, d3, -, -, -, -⟩ := (hr3.done (.bool (decide ((q).num < 0))) (.slice A3 k3 c3) (.bool false) (.slice A4 k4 c4)).four
    have HF := Lib.hid hfin
    clear hfin hB0 hB1 hB2 HSZ c0 c1 c2 e0 e1 e2 e3
    go_wp2
    refine bodyPost_ret (v := .agg #[.bool (decide ((q).num < 0)), .slice A3 k3 c3, .bool false, .slice A4 k4 c4]) ?_ rfl HF.out
    simp [results, Tryz.results57, go_sem, d0, d1, d2, d3]


set_option maxRecDepth 100000 in
set_option maxHeartbeats 8000000 in
theorem qsub_any (M Nn Nd : Nat) (HO : WOK M) (hnd : 2 * (Nn * Nd) ≤ M) (hdd : Nd * Nd ≤ M) (an an' bn bn' : Bool) (aA aA' bA bA' : Option Addr) (ak ac ak' ac' bk bc bk' bc' : Nat) (qa qb : Rat) (w : World)
    (ha : QAt Nn Nd w an aA ak ac an' aA' ak' ac' qa) (hb : QAt Nn Nd w bn bA bk bc bn' bA' bk' bc' qb) :
    Calls Tryz.prog 72 #[.agg #[.bool an, .slice aA ak ac, .bool an', .slice aA' ak' ac'], .agg #[.bool bn, .slice bA bk bc, .bool bn', .slice bA' bk' bc']] w (RetQ w (qa - qb)) := by
  obtain ⟨na, da, hia, hna, hda, rfl⟩ := ha
  obtain ⟨nb, db, hib, hnb, hdb, rfl⟩ := hb
  rw [rat_sub _ _ _ _ (qden_pos da) (qden_pos db)]
  have S1 := fun W hW => short_in (w := W) (h := hia.below (w' := W) hW)
  have S2 := fun W hW => short_in (w := W) (h := hib.below (w' := W) hW)
  have hC := fun W (hW : Below w.heap.size w W) => calc_sub M HO an an' bn bn' aA aA' bA bA' ak ac ak' ac' bk bc bk' bc' na da nb db W (hia.below hW) (hib.below hW) (by have := bound_mul2 hna hdb hnd; omega) (by have := bound_mul2 hnb hda hnd; omega) (by have h1 := bound_mul2 hna hdb hnd; have h2 := bound_mul2 hnb hda hnd; omega) (bound_mul hda hdb hdd)
  have hsm : Small na ∧ Small da → Small nb ∧ Small db → Small (qnum na da) ∧ Small (qden da) ∧ Small (qnum nb db) ∧ Small (qden db) := fun h1 h2 => ⟨small_num h1.1, small_den h1.2, small_num h2.1, small_den h2.2⟩
  have hp1 := qden_pos da
  have hp2 := qden_pos db
  unfold ShortPost at S1 S2
  generalize qnum na da = x1 at *
  generalize qden da = x2 at *
  generalize qnum nb db = x3 at *
  generalize qden db = x4 at *
  have S1 := Lib.hid S1
  have S2 := Lib.hid S2
  have HC := Lib.hid hC
  have HSM := Lib.hid hsm
  clear hC hsm hna hda hnb hdb
  go_enter Tryz.func72, Tryz.ntmps72
  go_wp2_with fail
  have hB0 := ((Blk.new w 42 #[.bool an, .slice aA ak ac, .bool an', .slice aA' ak' ac']).alloc (.cells #[.bool bn, .slice bA bk bc, .bool bn', .slice bA' bk' bc'] 42)).alloc (.cells #[.bool false, .slice none 0 0, .bool false, .slice none 0 0] 42)
  have hB1 := (Blk.new1 w (.cells #[.bool an, .slice aA ak ac, .bool an', .slice aA' ak' ac'] 42) 42 #[.bool bn, .slice bA bk bc, .bool bn', .slice bA' bk' bc']).alloc (.cells #[.bool false, .slice none 0 0, .bool false, .slice none 0 0] 42)
  have hB2 := Blk.new2 w (.cells #[.bool an, .slice aA ak ac, .bool an', .slice aA' ak' ac'] 42) (.cells #[.bool bn, .slice bA bk bc, .bool bn', .slice bA' bk' bc'] 42) 42 #[.bool false, .slice none 0 0, .bool false, .slice none 0 0]
  have hBW : Below w.heap.size w (((w.alloc (.cells #[.bool an, .slice aA ak ac, .bool an', .slice aA' ak' ac'] 42)).alloc (.cells #[.bool bn, .slice bA bk bc, .bool bn', .slice bA' bk' bc'] 42)).alloc (.cells #[.bool false, .slice none 0 0, .bool false, .slice none 0 0] 42)) := (((Below.refl _ _).alloc (Nat.le_refl _) _).alloc (by simp only [World.size_alloc]; omega) _).alloc (by simp only [World.size_alloc]; omega) _
  have hsz : (((w.alloc (.cells #[.bool an, .slice aA ak ac, .bool an', .slice aA' ak' ac'] 42)).alloc (.cells #[.bool bn, .slice bA bk bc, .bool bn', .slice bA' bk' bc'] 42)).alloc (.cells #[.bool false, .slice none 0 0, .bool false, .slice none 0 0] 42)).heap.size = w.heap.size + 1 + 1 + 1 := by simp
  generalize ((w.alloc (.cells #[.bool an, .slice aA ak ac, .bool an', .slice aA' ak' ac'] 42)).alloc (.cells #[.bool bn, .slice bA bk bc, .bool bn', .slice bA' bk' bc'] 42)).alloc (.cells #[.bool false, .slice none 0 0, .bool false, .slice none 0 0] 42) = W at *
  have HSZ := Lib.hid hsz
  clear hsz
  refine (S1.out W hBW).mono ?_
  rintro e w1 ⟨hs1, hb1⟩
  have hB0 := hB0.below hb1 hB0.lt
  have hB1 := hB1.below hb1 hB1.lt
  have hB2 := hB2.below hb1 hB2.lt
  have hb1 : Below w.heap.size w w1 := hBW.trans (hb1.mono hBW.size)
  obtain ⟨c0, c1, c2, c3, -, -, -, -⟩ := hB1.four
  clear hBW HSZ S1
  have T2 := S2.out w1 hb1
  have T2 := Lib.hid T2
  rcases hs1 with ⟨hsa, hsa', rfl⟩ | ⟨hsa, rfl⟩
  · have HSA := Lib.hid (And.intro hsa hsa')
    clear hsa hsa'
    go_wp2_with fail
    refine T2.out.mono ?_
    rintro e w2 ⟨hs2, hb2⟩
    have hB0 := hB0.below hb2 hB0.lt
    have hB1 := hB1.below hb2 hB1.lt
    have hB2 := hB2.below hb2 hB2.lt
    have hb2 : Below w.heap.size w w2 := hb1.trans (hb2.mono hb1.size)
    have hz2 : w.heap.size + 1 + 1 + 1 ≤ w2.heap.size := hB2.lt
    clear c0 c1 c2 c3 hb1 S2 T2
    rcases hs2 with ⟨hsb, hsb', rfl⟩ | ⟨hsb, rfl⟩
    · obtain ⟨h1, h2, h3, h4⟩ := HSM.out HSA.out ⟨hsb, hsb'⟩
      have k1 := small_mul h1 h4
      have k2 := small_mul h3 h2
      have k3 := small_mul h2 h4
      have hdp : 0 < x2 * x4 := Int.mul_pos hp1 hp2
      have e1 : (x2 * x4).toNat = (x2 * x4).natAbs := by omega
      have hR := fun W => ratio_any (x1 * x4 - x3 * x2) (x2 * x4) W (by unfold Fit63; omega) hdp (by omega)
      rw [e1] at hR
      generalize mkRat (x1 * x4 - x3 * x2) (x2 * x4).natAbs = q at *
      have v1 := wrap_in (x1 * x4) (by omega) (by omega)
      have v2 := wrap_in (x3 * x2) (by omega) (by omega)
      have v3 := wrap_in (x2 * x4) (by omega) (by omega)
      have v4 := wrap_in (x1 * x4 - x3 * x2) (by omega) (by omega)
      obtain ⟨v1, v1'⟩ := v1
      obtain ⟨v2, v2'⟩ := v2
      obtain ⟨v3, v3'⟩ := v3
      obtain ⟨v4, v4'⟩ := v4
      have HR := Lib.hid hR
      clear k1 k2 k3 hdp e1 h1 h2 h3 h4 hsb hsb' HSA HSM HC hR
      go_wp2_with fail
      refine (HR.out w2).mono ?_
      clear v1 v2 v3 v4 v1' v2' v3' v4'
      rintro e w3 ⟨A3, k3, c3, A4, k4, c4, rfl, hk3, hk4, hW3, hW4, hF3, hF4, hb3⟩
      have hr3 := (RS4.start hB2).call hb3
      obtain ⟨_, _, _, _, i0, i1, i2, i3, i4, i5, i6, i7⟩ := hr3.four
      have hBW := hb2
      have HSZ : Hid True := trivial
      have hfin := retQ_close hBW (by omega) (by have := HSZ.out; omega) hr3 hk3 hk4 hW3 hW4 hF3 hF4
      obtain ⟨d0, d1, d2, d3, -, -, -, -⟩ := (hr3.done (.bool (decide ((q).num < 0))) (.slice A3 k3 c3) (.bool false) (.slice A4 k4 c4)).four
      have HF := Lib.hid hfin
      clear hfin hB0 hB1 hB2 HSZ
      go_wp2
      refine bodyPost_ret (v := .agg #[.bool (decide ((q).num < 0)), .slice A3 k3 c3, .bool false, .slice A4 k4 c4]) ?_ rfl HF.out
      simp [results, Tryz.results72, go_sem, d0, d1, d2, d3]
    · have HSB := Lib.hid hsb
      obtain ⟨c0, c1, c2, c3, -, -, -, -⟩ := hB0.four
      obtain ⟨e0, e1, e2, e3, -, -, -, -⟩ := hB1.four
      clear hsb HSB HSA HSM
      go_wp2_with fail
      refine (HC.out w2 hb2).mono ?_
      generalize mkRat (x1 * x4 - x3 * x2) (x2 * x4).natAbs = q at *
      rintro e w3 ⟨A3, k3, c3, A4, k4, c4, rfl, hk3, hk4, hW3, hW4, hF3, hF4, hb3⟩
      have hr3 := (RS4.start hB2).call hb3
      obtain ⟨_, _, _, _, i0, i1, i2, i3, i4, i5, i6, i7⟩ := hr3.four
      have hBW := hb2
      have HSZ : Hid True := trivial
      have hfin := retQ_close hBW (by omega) (by have := HSZ.out; omega) hr3 hk3 hk4 hW3 hW4 hF3 hF4
      obtain ⟨d0, d1, d2, d3, -, -, -, -⟩ := (hr3.done (.bool (decide ((q).num < 0))) (.slice A3 k3 c3) (.bool false) (.slice A4 k4 c4)).four
      have HF := Lib.hid hfin
      clear hfin hB0 hB1 hB2 HSZ c0 c1 c2 e0 e1 e2 e3
      go_wp2
      refine bodyPost_ret (v := .agg #[.bool (decide ((q).num < 0)), .slice A3 k3 c3, .bool false, .slice A4 k4 c4]) ?_ rfl HF.out
      simp [results, Tryz.results72, go_sem, d0, d1, d2, d3]
  · have HSA := Lib.hid hsa
    clear hsa
    go_wp2_with fail
    refine T2.out.mono ?_
    rintro e w2 ⟨hs2, hb2⟩
    have hB0 := hB0.below hb2 hB0.lt
    have hB1 := hB1.below hb2 hB1.lt
    have hB2 := hB2.below hb2 hB2.lt
    have hb2 : Below w.heap.size w w2 := hb1.trans (hb2.mono hb1.size)
    have hz2 : w.heap.size + 1 + 1 + 1 ≤ w2.heap.size := hB2.lt
    clear c0 c1 c2 c3 hb1 S2 T2
    have hs3 : (∃ y1 y2 y3, e = .returned (.tuple #[.int .i64 y1, .int .i64 y2, .bool y3])) := by
      rcases hs2 with ⟨_, _, rfl⟩ | ⟨_, rfl⟩
      · exact ⟨_, _, _, rfl⟩
      · exact ⟨_, _, _, rfl⟩
    obtain ⟨y1, y2, y3, rfl⟩ := hs3
    clear hs2
    obtain ⟨c0, c1, c2, c3, -, -, -, -⟩ := hB0.four
    obtain ⟨e0, e1, e2, e3, -, -, -, -⟩ := hB1.four
    clear HSA HSM
    go_wp2_with fail
    refine (HC.out w2 hb2).mono ?_
    generalize mkRat (x1 * x4 - x3 * x2) (x2 * x4).natAbs = q at *
    rintro e w3 ⟨A3, k3, c3, A4, k4, c4, rfl, hk3, hk4, hW3, hW4, hF3, hF4, hb3⟩
    have hr3 := (RS4.start hB2).call hb3
    obtain ⟨_, _, _, _, i0, i1, i2, i3, i4, i5, i6, i7⟩ := hr3.four
    have hBW := hb2
    have HSZ : Hid True := trivial
    have hfin := retQ_close hBW (by omega) (by have := HSZ.out; omega) hr3 hk3 hk4 hW3 hW4 hF3 hF4
    obtain ⟨d0, d1, d2, d3, -, -, -, -⟩ := (hr3.done (.bool (decide ((q).num < 0))) (.slice A3 k3 c3) (.bool false) (.slice A4 k4 c4)).four
    have HF := Lib.hid hfin
    clear hfin hB0 hB1 hB2 HSZ c0 c1 c2 e0 e1 e2 e3
    go_wp2
    refine bodyPost_ret (v := .agg #[.bool (decide ((q).num < 0)), .slice A3 k3 c3, .bool false, .slice A4 k4 c4]) ?_ rfl HF.out
    simp [results, Tryz.results72, go_sem, d0, d1, d2, d3]


set_option maxRecDepth 100000 in
set_option maxHeartbeats 8000000 in
theorem qmulq_any (M Nn Nd : Nat) (HO : WOK M) (hnd : Nn * Nn ≤ M) (hdd : Nd * Nd ≤ M) (an an' bn bn' : Bool) (aA aA' bA bA' : Option Addr) (ak ac ak' ac' bk bc bk' bc' : Nat) (qa qb : Rat) (w : World)
    (ha : QAt Nn Nd w an aA ak ac an' aA' ak' ac' qa) (hb : QAt Nn Nd w bn bA bk bc bn' bA' bk' bc' qb) :
    Calls Tryz.prog 71 #[.agg #[.bool an, .slice aA ak ac, .bool an', .slice aA' ak' ac'], .agg #[.bool bn, .slice bA bk bc, .bool bn', .slice bA' bk' bc']] w (RetQ w (qa * qb)) := by
  obtain ⟨na, da, hia, hna, hda, rfl⟩ := ha
  obtain ⟨nb, db, hib, hnb, hdb, rfl⟩ := hb
  rw [rat_mul]
  have S1 := fun W hW => short_in (w := W) (h := hia.below (w' := W) hW)
  have S2 := fun W hW => short_in (w := W) (h := hib.below (w' := W) hW)
  have hC := fun W (hW : Below w.heap.size w W) => calc_mul M HO an an' bn bn' aA aA' bA bA' ak ac ak' ac' bk bc bk' bc' na da nb db W (hia.below hW) (hib.below hW) (bound_mul hna hnb hnd) (bound_mul hda hdb hdd)
  have hsm : Small na ∧ Small da → Small nb ∧ Small db → Small (qnum na da) ∧ Small (qden da) ∧ Small (qnum nb db) ∧ Small (qden db) := fun h1 h2 => ⟨small_num h1.1, small_den h1.2, small_num h2.1, small_den h2.2⟩
  have hp1 := qden_pos da
  have hp2 := qden_pos db
  unfold ShortPost at S1 S2
  generalize qnum na da = x1 at *
  generalize qden da = x2 at *
  generalize qnum nb db = x3 at *
  generalize qden db = x4 at *
  have S1 := Lib.hid S1
  have S2 := Lib.hid S2
  have HC := Lib.hid hC
  have HSM := Lib.hid hsm
  clear hC hsm hna hda hnb hdb
  go_enter Tryz.func71, Tryz.ntmps71
  go_wp2_with fail
  have hB0 := ((Blk.new w 42 #[.bool an, .slice aA ak ac, .bool an', .slice aA' ak' ac']).alloc (.cells #[.bool bn, .slice bA bk bc, .bool bn', .slice bA' bk' bc'] 42)).alloc (.cells #[.bool false, .slice none 0 0, .bool false, .slice none 0 0] 42)
  have hB1 := (Blk.new1 w (.cells #[.bool an, .slice aA ak ac, .bool an', .slice aA' ak' ac'] 42) 42 #[.bool bn, .slice bA bk bc, .bool bn', .slice bA' bk' bc']).alloc (.cells #[.bool false, .slice none 0 0, .bool false, .slice none 0 0] 42)
  have hB2 := Blk.new2 w (.cells #[.bool an, .slice aA ak ac, .bool an', .slice aA' ak' ac'] 42) (.cells #[.bool bn, .slice bA bk bc, .bool bn', .slice bA' bk' bc'] 42) 42 #[.bool false, .slice none 0 0, .bool false, .slice none 0 0]
  have hBW : Below w.heap.size w (((w.alloc (.cells #[.bool an, .slice aA ak ac, .bool an', .slice aA' ak' ac'] 42)).alloc (.cells #[.bool bn, .slice bA bk bc, .bool bn', .slice bA' bk' bc'] 42)).alloc (.cells #[.bool false, .slice none 0 0, .bool false, .slice none 0 0] 42)) := (((Below.refl _ _).alloc (Nat.le_refl _) _).alloc (by simp only [World.size_alloc]; omega) _).alloc (by simp only [World.size_alloc]; omega) _
  have hsz : (((w.alloc (.cells #[.bool an, .slice aA ak ac, .bool an', .slice aA' ak' ac'] 42)).alloc (.cells #[.bool bn, .slice bA bk bc, .bool bn', .slice bA' bk' bc'] 42)).alloc (.cells #[.bool false, .slice none 0 0, .bool false, .slice none 0 0] 42)).heap.size = w.heap.size + 1 + 1 + 1 := by simp
  generalize ((w.alloc (.cells #[.bool an, .slice aA ak ac, .bool an', .slice aA' ak' ac'] 42)).alloc (.cells #[.bool bn, .slice bA bk bc, .bool bn', .slice bA' bk' bc'] 42)).alloc (.cells #[.bool false, .slice none 0 0, .bool false, .slice none 0 0] 42) = W at *
  have HSZ := Lib.hid hsz
  clear hsz
  refine (S1.out W hBW).mono ?_
  rintro e w1 ⟨hs1, hb1⟩
  have hB0 := hB0.below hb1 hB0.lt
  have hB1 := hB1.below hb1 hB1.lt
  have hB2 := hB2.below hb1 hB2.lt
  have hb1 : Below w.heap.size w w1 := hBW.trans (hb1.mono hBW.size)
  obtain ⟨c0, c1, c2, c3, -, -, -, -⟩ := hB1.four
  clear hBW HSZ S1
  have T2 := S2.out w1 hb1
  have T2 := Lib.hid T2
  rcases hs1 with ⟨hsa, hsa', rfl⟩ | ⟨hsa, rfl⟩
  · have HSA := Lib.hid (And.intro hsa hsa')
    clear hsa hsa'
    go_wp2_with fail
    refine T2.out.mono ?_
    rintro e w2 ⟨hs2, hb2⟩
    have hB0 := hB0.below hb2 hB0.lt
    have hB1 := hB1.below hb2 hB1.lt
    have hB2 := hB2.below hb2 hB2.lt
    have hb2 : Below w.heap.size w w2 := hb1.trans (hb2.mono hb1.size)
    have hz2 : w.heap.size + 1 + 1 + 1 ≤ w2.heap.size := hB2.lt
    clear c0 c1 c2 c3 hb1 S2 T2
    rcases hs2 with ⟨hsb, hsb', rfl⟩ | ⟨hsb, rfl⟩
    · obtain ⟨h1, h2, h3, h4⟩ := HSM.out HSA.out ⟨hsb, hsb'⟩
      have k1 := small_mul h1 h3
      have k2 := small_mul h1 h3
      have k3 := small_mul h2 h4
      have hdp : 0 < x2 * x4 := Int.mul_pos hp1 hp2
      have e1 : (x2 * x4).toNat = (x2 * x4).natAbs := by omega
      have hR := fun W => ratio_any (x1 * x3) (x2 * x4) W (by unfold Fit63; omega) hdp (by omega)
      rw [e1] at hR
      generalize mkRat (x1 * x3) (x2 * x4).natAbs = q at *
      have v1 := wrap_in (x1 * x3) (by omega) (by omega)
      have v2 := wrap_in (x1 * x3) (by omega) (by omega)
      have v3 := wrap_in (x2 * x4) (by omega) (by omega)
      have v4 := wrap_in (x1 * x3) (by omega) (by omega)
      obtain ⟨v1, v1'⟩ := v1
      obtain ⟨v2, v2'⟩ := v2
      obtain ⟨v3, v3'⟩ := v3
      obtain ⟨v4, v4'⟩ := v4
      have HR := Lib.hid hR
      clear k1 k2 k3 hdp e1 h1 h2 h3 h4 hsb hsb' HSA HSM HC hR
      go_wp2_with fail
      refine (HR.out w2).mono ?_
      clear v1 v2 v3 v4 v1' v2' v3' v4'
      rintro e w3 ⟨A3, k3, c3, A4, k4, c4, rfl, hk3, hk4, hW3, hW4, hF3, hF4, hb3⟩
      have hr3 := (RS4.start hB2).call hb3
      obtain ⟨_, _, _, _, i0, i1, i2, i3, i4, i5, i6, i7⟩ := hr3.four
      have hBW := hb2
      have HSZ : Hid True := trivial
      have hfin := retQ_close hBW (by omega) (by have := HSZ.out; omega) hr3 hk3 hk4 hW3 hW4 hF3 hF4
      obtain ⟨d0, d1, d2, d3, -, -, -, -⟩ := (hr3.done (.bool (decide ((q).num < 0))) (.slice A3 k3 c3) (.bool false) (.slice A4 k4 c4)).four
      have HF := Lib.hid hfin
      clear hfin hB0 hB1 hB2 HSZ
      go_wp2
      refine bodyPost_ret (v := .agg #[.bool (decide ((q).num < 0)), .slice A3 k3 c3, .bool false, .slice A4 k4 c4]) ?_ rfl HF.out
      simp [results, Tryz.results71, go_sem, d0, d1, d2, d3]
    · have HSB := Lib.hid hsb
      obtain ⟨c0, c1, c2, c3, -, -, -, -⟩ := hB0.four
      obtain ⟨e0, e1, e2, e3, -, -, -, -⟩ := hB1.four
      clear hsb HSB HSA HSM
      go_wp2_with fail
      refine (HC.out w2 hb2).mono ?_
      generalize mkRat (x1 * x3) (x2 * x4).natAbs = q at *
      rintro e w3 ⟨A3, k3, c3, A4, k4, c4, rfl, hk3, hk4, hW3, hW4, hF3, hF4, hb3⟩
      have hr3 := (RS4.start hB2).call hb3
      obtain ⟨_, _, _, _, i0, i1, i2, i3, i4, i5, i6, i7⟩ := hr3.four
      have hBW := hb2
      have HSZ : Hid True := trivial
      have hfin := retQ_close hBW (by omega) (by have := HSZ.out; omega) hr3 hk3 hk4 hW3 hW4 hF3 hF4
      obtain ⟨d0, d1, d2, d3, -, -, -, -⟩ := (hr3.done (.bool (decide ((q).num < 0))) (.slice A3 k3 c3) (.bool false) (.slice A4 k4 c4)).four
      have HF := Lib.hid hfin
      clear hfin hB0 hB1 hB2 HSZ c0 c1 c2 e0 e1 e2 e3
      go_wp2
      refine bodyPost_ret (v := .agg #[.bool (decide ((q).num < 0)), .slice A3 k3 c3, .bool false, .slice A4 k4 c4]) ?_ rfl HF.out
      simp [results, Tryz.results71, go_sem, d0, d1, d2, d3]
  · have HSA := Lib.hid hsa
    clear hsa
    go_wp2_with fail
    refine T2.out.mono ?_
    rintro e w2 ⟨hs2, hb2⟩
    have hB0 := hB0.below hb2 hB0.lt
    have hB1 := hB1.below hb2 hB1.lt
    have hB2 := hB2.below hb2 hB2.lt
    have hb2 : Below w.heap.size w w2 := hb1.trans (hb2.mono hb1.size)
    have hz2 : w.heap.size + 1 + 1 + 1 ≤ w2.heap.size := hB2.lt
    clear c0 c1 c2 c3 hb1 S2 T2
    have hs3 : (∃ y1 y2 y3, e = .returned (.tuple #[.int .i64 y1, .int .i64 y2, .bool y3])) := by
      rcases hs2 with ⟨_, _, rfl⟩ | ⟨_, rfl⟩
      · exact ⟨_, _, _, rfl⟩
      · exact ⟨_, _, _, rfl⟩
    obtain ⟨y1, y2, y3, rfl⟩ := hs3
    clear hs2
    obtain ⟨c0, c1, c2, c3, -, -, -, -⟩ := hB0.four
    obtain ⟨e0, e1, e2, e3, -, -, -, -⟩ := hB1.four
    clear HSA HSM
    go_wp2_with fail
    refine (HC.out w2 hb2).mono ?_
    generalize mkRat (x1 * x3) (x2 * x4).natAbs = q at *
    rintro e w3 ⟨A3, k3, c3, A4, k4, c4, rfl, hk3, hk4, hW3, hW4, hF3, hF4, hb3⟩
    have hr3 := (RS4.start hB2).call hb3
    obtain ⟨_, _, _, _, i0, i1, i2, i3, i4, i5, i6, i7⟩ := hr3.four
    have hBW := hb2
    have HSZ : Hid True := trivial
    have hfin := retQ_close hBW (by omega) (by have := HSZ.out; omega) hr3 hk3 hk4 hW3 hW4 hF3 hF4
    obtain ⟨d0, d1, d2, d3, -, -, -, -⟩ := (hr3.done (.bool (decide ((q).num < 0))) (.slice A3 k3 c3) (.bool false) (.slice A4 k4 c4)).four
    have HF := Lib.hid hfin
    clear hfin hB0 hB1 hB2 HSZ c0 c1 c2 e0 e1 e2 e3
    go_wp2
    refine bodyPost_ret (v := .agg #[.bool (decide ((q).num < 0)), .slice A3 k3 c3, .bool false, .slice A4 k4 c4]) ?_ rfl HF.out
    simp [results, Tryz.results71, go_sem, d0, d1, d2, d3]

end Go.Proofs.YtnjpojpfiijlfaaGreat

namespace Go.Proofs.YtnjpojpfiijlfaaGreat
set_option linter.unusedVariables false
set_option linter.unusedSimpArgs false
open Go.RowKit
open Wd

set_option maxHeartbeats 1000000 in
theorem qfromInt64_any (z : Int) (w : World) (h1 : -9223372036854775808 ≤ z) (h2 : z ≤ 9223372036854775807) :
    Calls Tryz.prog 50 #[.int .i64 z] w (RetQ w (z : Rat)) := by
  have T := Lib.hid (fun W => fromInt64_any z W h1 h2)
  have en : ((z : Int) : Rat).num = z := Rat.num_intCast z
  have ed : ((z : Int) : Rat).den = 1 := Rat.den_intCast z
  rw [← en] at T
  rw [en] at T
  generalize ((z : Int) : Rat) = q at *
  have ED := Lib.hid ed
  have EN := Lib.hid en
  clear ed en h1 h2
  go_enter Tryz.func50, Tryz.ntmps50
  go_wp2_with fail
  have hB0 := Blk.new w 42 #[.bool false, .slice none 0 0, .bool false, .slice none 0 0]
  have hBW : Below w.heap.size w (w.alloc (.cells #[.bool false, .slice none 0 0, .bool false, .slice none 0 0] 42)) := (Below.refl _ _).alloc (Nat.le_refl _) _
  have hsz : (w.alloc (.cells #[.bool false, .slice none 0 0, .bool false, .slice none 0 0] 42)).heap.size = w.heap.size + 1 := by simp
  generalize w.alloc (.cells #[.bool false, .slice none 0 0, .bool false, .slice none 0 0] 42) = W at *
  have HSZ := Lib.hid hsz
  clear hsz
  refine (T.out W).mono ?_
  rw [← EN.out]
  rintro e w3 ⟨A3, k3, c3, rfl, hk3, hW3, hF3, hb3⟩
  have hr3 := (RS4.start hB0).call hb3
  obtain ⟨_, _, _, _, c0, c1, c2, c4, f0, f1, f2, f3⟩ := hr3.four
  have hW4 : Wat w3 none 0 (denW q.den) := by rw [ED.out]; exact Wat.nil
  have hF4 : Fresh W.heap.size w3 none 0 := Fresh.nil
  have hfin := retQ_close (c' := 0) hBW (Nat.le_refl _) (by have := HSZ.out; omega) hr3 hk3 (Nat.le_refl 0) hW3 hW4 hF3 hF4
  obtain ⟨d0, d1, d2, d3, -, -, -, -⟩ := (hr3.done (.bool (decide (q.num < 0))) (.slice A3 k3 c3) (.bool false) (.slice none 0 0)).four
  have HF := Lib.hid hfin
  clear hfin hB0 hr3 hW3 hF3 hW4 hF4 hb3
  go_wp2
  refine bodyPost_ret (v := .agg #[.bool (decide (q.num < 0)), .slice A3 k3 c3, .bool false, .slice none 0 0]) ?_ rfl HF.out
  simp [results, Tryz.results50, go_sem, d0, d1, d2, d3]

/-- The sign of a rational. -/
def sgnQ (q : Rat) : Int := cmpI q.num 0
theorem sgn_mk (n d : Int) (hd : 0 < d) : cmpI (mkRat n d.natAbs).num 0 = cmpI n 0 := by
  rw [mk_num n d.natAbs (by omega)]
  have hg : 0 < Nat.gcd n.natAbs d.natAbs := Nat.gcd_pos_of_pos_right _ (by omega)
  obtain ⟨m, hm⟩ : ((Nat.gcd n.natAbs d.natAbs : Nat) : Int) ∣ n := Int.ofNat_dvd_left.2 (Nat.gcd_dvd_left _ _)
  generalize Nat.gcd n.natAbs d.natAbs = G at *
  have e : n.tdiv (G : Int) = m := by rw [hm]; exact Int.mul_tdiv_cancel_left m (by omega)
  rw [e, hm]
  rcases Int.lt_trichotomy m 0 with h | h | h
  · rw [cmpI_lt h, cmpI_lt (Int.mul_neg_of_pos_of_neg (by omega) h)]
  · rw [h, Int.mul_zero]
  · rw [cmpI_gt h, cmpI_gt (Int.mul_pos (by omega) h)]

set_option maxHeartbeats 1000000 in
theorem qsign_any {Nn Nd : Nat} (an an' : Bool) (aA aA' : Option Addr) (ak ac ak' ac' : Nat) (q : Rat) (w : World) (ha : QAt Nn Nd w an aA ak ac an' aA' ak' ac' q) :
    Calls Tryz.prog 52 #[.agg #[.bool an, .slice aA ak ac, .bool an', .slice aA' ak' ac']] w fun e w' => e = .returned (.int .i64 (sgnQ q)) ∧ Below w.heap.size w w' := by
  obtain ⟨na, da, ⟨l, l', h1, h2, h3, h4, h5, h6, hs, hs'⟩, _, _, rfl⟩ := ha
  unfold sgnQ
  rw [sgn_mk _ _ (qden_pos da)]
  have S1 := fun W hW => sign_any an aA ak ac l W hW h3 (by omega)
  have S2 := fun W hW => sign_any an' aA' ak' ac' l' W hW h4 (by omega)
  rw [hs] at S1
  rw [hs'] at S2
  have hq : qnum na da = if da < 0 then -na else na := rfl
  have S1 := Lib.hid S1
  have S2 := Lib.hid S2
  by_cases hda : da < 0
  · have e : cmpI (qnum na da) 0 = -(cmpI na 0) := by
      rw [hq, if_pos hda]; unfold cmpI; split <;> split <;> (try split) <;> (try split) <;> omega
    rw [e]
    rw [cmpI_lt hda] at S2
    have hr : -1 ≤ cmpI na 0 ∧ cmpI na 0 ≤ 1 := by unfold cmpI; split <;> (try split) <;> omega
    generalize cmpI na 0 = x at *
    clear e hq hs hs' hda
    obtain ⟨r1, r2⟩ := hr
    go_enter Tryz.func52, Tryz.ntmps52
    go_wp2_with fail
    have hB0 := Blk.new w 42 #[.bool an, .slice aA ak ac, .bool an', .slice aA' ak' ac']
    have hBW : Below w.heap.size w (w.alloc (.cells #[.bool an, .slice aA ak ac, .bool an', .slice aA' ak' ac'] 42)) := (Below.refl _ _).alloc (Nat.le_refl _) _
    have hsz : (w.alloc (.cells #[.bool an, .slice aA ak ac, .bool an', .slice aA' ak' ac'] 42)).heap.size = w.heap.size + 1 := by simp
    generalize w.alloc (.cells #[.bool an, .slice aA ak ac, .bool an', .slice aA' ak' ac'] 42) = W at *
    have HSZ := Lib.hid hsz
    clear hsz
    refine (S2.out W (h2.below hBW)).mono ?_
    rintro e w1 ⟨rfl, hb1⟩
    have hB0 := hB0.below hb1 hB0.lt
    have hb1 : Below w.heap.size w w1 := hBW.trans (hb1.mono hBW.size)
    obtain ⟨c0, c1, c2, c3, -, -, -, -⟩ := hB0.four
    clear hBW HSZ S2 hB0
    go_wp2_with fail
    refine (S1.out w1 (h1.below hb1)).mono ?_
    rintro e w2 ⟨rfl, hb2⟩
    have hb2 : Below w.heap.size w w2 := hb1.trans (hb2.mono hb1.size)
    clear hb1 S1 c0 c1 c2 c3
    go_wp2
    go_ret
    exact ⟨rfl, hb2⟩
  · have e : cmpI (qnum na da) 0 = cmpI na 0 := by rw [hq, if_neg hda]
    rw [e]
    have hd0 : 0 ≤ cmpI da 0 := by unfold cmpI; rw [if_neg hda]; split <;> omega
    generalize cmpI na 0 = x at *
    generalize cmpI da 0 = y at *
    clear e hq hs hs' hda
    go_enter Tryz.func52, Tryz.ntmps52
    go_wp2_with fail
    have hB0 := Blk.new w 42 #[.bool an, .slice aA ak ac, .bool an', .slice aA' ak' ac']
    have hBW : Below w.heap.size w (w.alloc (.cells #[.bool an, .slice aA ak ac, .bool an', .slice aA' ak' ac'] 42)) := (Below.refl _ _).alloc (Nat.le_refl _) _
    have hsz : (w.alloc (.cells #[.bool an, .slice aA ak ac, .bool an', .slice aA' ak' ac'] 42)).heap.size = w.heap.size + 1 := by simp
    generalize w.alloc (.cells #[.bool an, .slice aA ak ac, .bool an', .slice aA' ak' ac'] 42) = W at *
    have HSZ := Lib.hid hsz
    clear hsz
    refine (S2.out W (h2.below hBW)).mono ?_
    rintro e w1 ⟨rfl, hb1⟩
    have hB0 := hB0.below hb1 hB0.lt
    have hb1 : Below w.heap.size w w1 := hBW.trans (hb1.mono hBW.size)
    obtain ⟨c0, c1, c2, c3, -, -, -, -⟩ := hB0.four
    clear hBW HSZ S2 hB0
    go_wp2_with fail
    refine (S1.out w1 (h1.below hb1)).mono ?_
    rintro e w2 ⟨rfl, hb2⟩
    have hb2 : Below w.heap.size w w2 := hb1.trans (hb2.mono hb1.size)
    clear hb1 S1 c0 c1 c2 c3
    go_wp2
    go_ret
    exact ⟨rfl, hb2⟩

theorem canon_eq (n d : Int) (hd : 0 < d) : mkRat n d.natAbs = mkRat n d.natAbs := rfl

set_option maxRecDepth 100000 in
set_option maxHeartbeats 2000000 in
theorem qcanon_any (M Nn Nd : Nat) (HO : WOK M) (hnm : Nn ≤ M) (hdm : Nd ≤ M) (an an' : Bool) (aA aA' : Option Addr) (ak ac ak' ac' : Nat) (q : Rat) (w : World) (ha : QAt Nn Nd w an aA ak ac an' aA' ak' ac' q) :
    Calls Tryz.prog 131 #[.agg #[.bool an, .slice aA ak ac, .bool an', .slice aA' ak' ac']] w (RetQ w q) := by
  obtain ⟨na, da, hia, hna, hda, rfl⟩ := ha
  have S1 := fun W hW => short_in (w := W) (h := hia.below (w' := W) hW)
  have P1 := fun W hW => parts_in (w := W) (h := hia.below (w' := W) hW)
  have hsm : Small na ∧ Small da → Small (qnum na da) ∧ Small (qden da) := fun h1 => ⟨small_num h1.1, small_den h1.2⟩
  have hp1 := qden_pos da
  have R1 := fun (m1 m2 : Bool) (B1 B2 : Option Addr) (j1 d1 j2 d2 : Nat) (r1 r2 : List Nat) (W : World) (h1 : ZIn W m1 B1 j1 d1 r1 (qnum na da)) (h2 : ZIn W m2 B2 j2 d2 r2 (qden da)) => reduce_any M HO m1 m2 B1 B2 j1 j2 d1 d2 r1 r2 W h1.1 h2.1 h1.2.1 h2.2.1 h1.2.2.1 h2.2.2.1 (by rw [h1.abs]; omega) (by rw [h2.abs]; omega) (by rw [h2.2.2.2]; exact hp1)
  unfold ShortPost at S1
  have hR := fun W (h : Small na ∧ Small da) => ratio_any (qnum na da) (qden da) W (by have := (hsm h).1; unfold Small at this; unfold Fit63; omega) hp1 (by have := (hsm h).2; unfold Small at this; omega)
  rw [show (qden da).toNat = (qden da).natAbs by omega] at hR
  have R2 := fun (m1 m2 : Bool) (B1 B2 : Option Addr) (j1 d1 j2 d2 : Nat) (r1 r2 : List Nat) (W : World) (h1 : ZIn W m1 B1 j1 d1 r1 (qnum na da)) (h2 : ZIn W m2 B2 j2 d2 r2 (qden da)) => (by have := R1 m1 m2 B1 B2 j1 d1 j2 d2 r1 r2 W h1 h2; rw [h1.2.2.2, h2.abs] at this; exact this : Calls Tryz.prog 130 #[.agg #[.bool m1, .slice B1 j1 d1], .agg #[.bool m2, .slice B2 j2 d2]] W (RetQ W (mkRat (qnum na da) (qden da).natAbs)))
  generalize mkRat (qnum na da) (qden da).natAbs = q at *
  generalize qnum na da = x1 at *
  generalize qden da = x2 at *
  have S1 := Lib.hid S1
  have P1 := Lib.hid P1
  have HR := Lib.hid hR
  have R2 := Lib.hid R2
  clear hR R1 hsm hna hda
  go_enter Tryz.func131, Tryz.ntmps131
  go_wp2_with fail
  have hB0 := (Blk.new w 42 #[.bool an, .slice aA ak ac, .bool an', .slice aA' ak' ac']).alloc (.cells #[.bool false, .slice none 0 0, .bool false, .slice none 0 0] 42)
  have hB1 := Blk.new1 w (.cells #[.bool an, .slice aA ak ac, .bool an', .slice aA' ak' ac'] 42) 42 #[.bool false, .slice none 0 0, .bool false, .slice none 0 0]
  have hBW : Below w.heap.size w ((w.alloc (.cells #[.bool an, .slice aA ak ac, .bool an', .slice aA' ak' ac'] 42)).alloc (.cells #[.bool false, .slice none 0 0, .bool false, .slice none 0 0] 42)) := ((Below.refl _ _).alloc (Nat.le_refl _) _).alloc (by simp only [World.size_alloc]; omega) _
  have hsz : ((w.alloc (.cells #[.bool an, .slice aA ak ac, .bool an', .slice aA' ak' ac'] 42)).alloc (.cells #[.bool false, .slice none 0 0, .bool false, .slice none 0 0] 42)).heap.size = w.heap.size + 1 + 1 := by simp
  generalize (w.alloc (.cells #[.bool an, .slice aA ak ac, .bool an', .slice aA' ak' ac'] 42)).alloc (.cells #[.bool false, .slice none 0 0, .bool false, .slice none 0 0] 42) = W at *
  have HSZ := Lib.hid hsz
  clear hsz
  refine (S1.out W hBW).mono ?_
  rintro e w1 ⟨hs1, hb1⟩
  have hB0 := hB0.below hb1 hB0.lt
  have hB1 := hB1.below hb1 hB1.lt
  have hb1 : Below w.heap.size w w1 := hBW.trans (hb1.mono hBW.size)
  have hz1 : w.heap.size + 1 + 1 ≤ w1.heap.size := hB1.lt
  obtain ⟨c0, c1, c2, c5, -, -, -, -⟩ := hB0.four
  clear hBW HSZ S1
  rcases hs1 with ⟨hsa, hsa', rfl⟩ | ⟨hsa, rfl⟩
  · have HR2 := Lib.hid (fun W => HR.out W ⟨hsa, hsa'⟩)
    clear hsa hsa' HR
    go_wp2_with fail
    refine (HR2.out w1).mono ?_
    rintro e w3 ⟨A3, k3, c3, A4, k4, c4, rfl, hk3, hk4, hW3, hW4, hF3, hF4, hb3⟩
    have hr3 := (RS4.start hB1).call hb3
    obtain ⟨_, _, _, _, i0, i1, i2, i3, i4, i5, i6, i7⟩ := hr3.four
    have hBW := hb1
    have HSZ : Hid True := trivial
    have hfin := retQ_close hBW (by omega) (by have := HSZ.out; omega) hr3 hk3 hk4 hW3 hW4 hF3 hF4
    obtain ⟨d0, d1, d2, d3, -, -, -, -⟩ := (hr3.done (.bool (decide ((q).num < 0))) (.slice A3 k3 c3) (.bool false) (.slice A4 k4 c4)).four
    have HF := Lib.hid hfin
    clear hfin hB0 hB1 HSZ c0 c1 c2 c5
    go_wp2
    refine bodyPost_ret (v := .agg #[.bool (decide ((q).num < 0)), .slice A3 k3 c3, .bool false, .slice A4 k4 c4]) ?_ rfl HF.out
    simp [results, Tryz.results131, go_sem, d0, d1, d2, d3]
  · clear hsa HR
    go_wp2_with fail
    refine (P1.out w1 hb1).mono ?_
    rintro e w2 ⟨m1, B1, j1, d1, r1, m2, B2, j2, d2, r2, rfl, hj1, hj2, hl1, hl2, hW1, hW2, hs1, hs2, hb2⟩
    have hB1 := hB1.below hb2 hB1.lt
    have T := Lib.hid (R2.out m1 m2 B1 B2 j1 d1 j2 d2 r1 r2 w2 ⟨hW1, hj1, hl1, hs1⟩ ⟨hW2, hj2, hl2, hs2⟩)
    have hz2 := hb2.size
    have hb2 : Below w.heap.size w w2 := hb1.trans (hb2.mono hb1.size)
    clear hs1 hs2 hW1 hW2 c0 c1 c2 c5 P1 R2 hb1
    go_wp2_with fail
    refine T.out.mono ?_
    rintro e w3 ⟨A3, k3, c3, A4, k4, c4, rfl, hk3, hk4, hW3, hW4, hF3, hF4, hb3⟩
    have hr3 := (RS4.start hB1).call hb3
    obtain ⟨_, _, _, _, i0, i1, i2, i3, i4, i5, i6, i7⟩ := hr3.four
    have hBW := hb2
    have HSZ : Hid True := trivial
    have hfin := retQ_close hBW (by omega) (by have := HSZ.out; omega) hr3 hk3 hk4 hW3 hW4 hF3 hF4
    obtain ⟨d0, d1, d2, d3, -, -, -, -⟩ := (hr3.done (.bool (decide ((q).num < 0))) (.slice A3 k3 c3) (.bool false) (.slice A4 k4 c4)).four
    have HF := Lib.hid hfin
    clear hfin hB0 hB1 HSZ
    go_wp2
    refine bodyPost_ret (v := .agg #[.bool (decide ((q).num < 0)), .slice A3 k3 c3, .bool false, .slice A4 k4 c4]) ?_ rfl HF.out
    simp [results, Tryz.results131, go_sem, d0, d1, d2, d3]

end Go.Proofs.YtnjpojpfiijlfaaGreat

namespace Go.Proofs.YtnjpojpfiijlfaaGreat
set_option linter.unusedVariables false
set_option linter.unusedSimpArgs false
open Go.RowKit
open Wd

/-- The order of two rationals, as Go's comparisons return it. -/
def cmpQ (a b : Rat) : Int := if a < b then -1 else if b < a then 1 else 0

theorem mk_lt (n1 n2 d1 d2 : Int) (h1 : 0 < d1) (h2 : 0 < d2) : mkRat n1 d1.natAbs < mkRat n2 d2.natAbs ↔ n1 * d2 < n2 * d1 := by
  have e := rat_sub n2 n1 d2 d1 h2 h1
  have hs := sgn_mk (n2 * d1 - n1 * d2) (d2 * d1) (Int.mul_pos h2 h1)
  rw [← e] at hs
  have hlt : mkRat n1 d1.natAbs < mkRat n2 d2.natAbs ↔ 0 < (mkRat n2 d2.natAbs - mkRat n1 d1.natAbs).num := by
    have h0 : (0 : Rat) < mkRat n2 d2.natAbs - mkRat n1 d1.natAbs ↔ 0 < (mkRat n2 d2.natAbs - mkRat n1 d1.natAbs).num := by
      rw [Rat.lt_iff]
      simp
    rw [← h0]
    constructor <;> intro h <;> grind
  rw [hlt]
  unfold cmpI at hs
  constructor
  · intro h
    rw [if_neg (by omega), if_pos h] at hs
    split at hs
    · omega
    · split at hs <;> omega
  · intro h
    rw [if_neg (c := n2 * d1 - n1 * d2 < 0) (by omega), if_pos (c := 0 < n2 * d1 - n1 * d2) (by omega)] at hs
    split at hs
    · omega
    · split at hs <;> omega
theorem cmpQ_mk (n1 n2 d1 d2 : Int) (h1 : 0 < d1) (h2 : 0 < d2) : cmpQ (mkRat n1 d1.natAbs) (mkRat n2 d2.natAbs) = cmpI (n1 * d2) (n2 * d1) := by
  unfold cmpQ cmpI
  simp only [mk_lt _ _ _ _ h1 h2, mk_lt _ _ _ _ h2 h1]

theorem len_mul {w w' : World} {m1 m2 : Bool} {B1 B2 : Option Addr} {j1 d1 j2 d2 : Nat} {r1 r2 : List Nat} {z1 z2 : Int} (h1 : ZIn w m1 B1 j1 d1 r1 z1) (h2 : ZIn w' m2 B2 j2 d2 r2 z2) : (digs (z1 * z2).natAbs).length ≤ 20000000000 := by
  have a1 := val_lt h1.1.2.1
  have a2 := val_lt h2.1.2.1
  rw [h1.1.1] at a1
  rw [h2.1.1] at a2
  have : (digs (z1 * z2).natAbs).length ≤ j1 + j2 := by
    rw [digs_len_le, Int.natAbs_mul, ← h1.abs, ← h2.abs, Nat.pow_add]
    exact Nat.mul_lt_mul'' a1 a2
  have b1 := h1.2.2.1
  have b2 := h2.2.2.1
  omega

theorem fsign_any (n : Int) (w : World) : Calls Tryz.prog 106 #[.int .i64 n] w fun e w' => e = .returned (.int .i64 (cmpI n 0)) ∧ w = w' := by
  rcases Int.lt_trichotomy n 0 with h | h | h
  · rw [cmpI_lt h]
    go_enter Tryz.func106, Tryz.ntmps106
    go_wp2
    go_ret
    exact ⟨rfl, rfl⟩
  · subst h
    go_enter Tryz.func106, Tryz.ntmps106
    go_wp2
    go_ret
    exact ⟨rfl, rfl⟩
  · rw [cmpI_gt h]
    go_enter Tryz.func106, Tryz.ntmps106
    go_wp2
    go_ret
    exact ⟨rfl, rfl⟩

/-- Where the signs differ, or both are zero, they decide. -/
theorem cmp_signs (n1 n2 d1 d2 : Int) (h1 : 0 < d1) (h2 : 0 < d2) (h : cmpI n1 0 ≠ cmpI n2 0 ∨ cmpI n1 0 = 0) : cmpI (n1 * d2) (n2 * d1) = cmpI (cmpI n1 0 - cmpI n2 0) 0 := by
  have a1 : n1 < 0 → n1 * d2 < 0 := fun h => Int.mul_neg_of_neg_of_pos h h2
  have a2 : 0 < n1 → 0 < n1 * d2 := fun h => Int.mul_pos h h2
  have b1 : n2 < 0 → n2 * d1 < 0 := fun h => Int.mul_neg_of_neg_of_pos h h1
  have b2 : 0 < n2 → 0 < n2 * d1 := fun h => Int.mul_pos h h1
  have a3 : n1 = 0 → n1 * d2 = 0 := fun h => by rw [h, Int.zero_mul]
  have b3 : n2 = 0 → n2 * d1 = 0 := fun h => by rw [h, Int.zero_mul]
  generalize n1 * d2 = p at *
  generalize n2 * d1 = r at *
  rcases Int.lt_trichotomy n1 0 with g | g | g <;> rcases Int.lt_trichotomy n2 0 with k | k | k
  all_goals
    (try have := a1 g)
    (try have := a2 g)
    (try have := a3 g)
    (try have := b1 k)
    (try have := b2 k)
    (try have := b3 k)
    (first | rw [cmpI_lt g] at * | rw [cmpI_eq g] at * | rw [cmpI_gt g] at *)
    (first | rw [cmpI_lt k] at * | rw [cmpI_eq k] at * | rw [cmpI_gt k] at *)
    unfold cmpI
    (try (exfalso; omega))
    (try (split <;> (try split) <;> omega))

set_option maxRecDepth 100000 in
set_option maxHeartbeats 8000000 in
theorem qcmp_any {Nn Nd : Nat} (an an' bn bn' : Bool) (aA aA' bA bA' : Option Addr) (ak ac ak' ac' bk bc bk' bc' : Nat) (qa qb : Rat) (w : World)
    (ha : QAt Nn Nd w an aA ak ac an' aA' ak' ac' qa) (hb : QAt Nn Nd w bn bA bk bc bn' bA' bk' bc' qb) :
    Calls Tryz.prog 55 #[.agg #[.bool an, .slice aA ak ac, .bool an', .slice aA' ak' ac'], .agg #[.bool bn, .slice bA bk bc, .bool bn', .slice bA' bk' bc']] w fun e w' => e = .returned (.int .i64 (cmpQ qa qb)) ∧ Below w.heap.size w w' := by
  obtain ⟨na, da, hia, hna, hda, rfl⟩ := ha
  obtain ⟨nb, db, hib, hnb, hdb, rfl⟩ := hb
  have hp1 := qden_pos da
  have hp2 := qden_pos db
  rw [cmpQ_mk _ _ _ _ hp1 hp2]
  have P1 := fun W hW => parts_in (w := W) (h := hia.below (w' := W) hW)
  have P2 := fun W hW => parts_in (w := W) (h := hib.below (w' := W) hW)
  generalize qnum na da = x1 at *
  generalize qden da = x2 at *
  generalize qnum nb db = x3 at *
  generalize qden db = x4 at *
  have hcs := cmp_signs x1 x3 x2 x4 hp1 hp2
  have HCS := Lib.hid hcs
  have P1 := Lib.hid P1
  have P2 := Lib.hid P2
  clear hcs hna hda hnb hdb hia hib
  go_enter Tryz.func55, Tryz.ntmps55
  go_wp2_with fail
  have hB0 := (Blk.new w 42 #[.bool an, .slice aA ak ac, .bool an', .slice aA' ak' ac']).alloc (.cells #[.bool bn, .slice bA bk bc, .bool bn', .slice bA' bk' bc'] 42)
  have hB1 := Blk.new1 w (.cells #[.bool an, .slice aA ak ac, .bool an', .slice aA' ak' ac'] 42) 42 #[.bool bn, .slice bA bk bc, .bool bn', .slice bA' bk' bc']
  have hBW : Below w.heap.size w ((w.alloc (.cells #[.bool an, .slice aA ak ac, .bool an', .slice aA' ak' ac'] 42)).alloc (.cells #[.bool bn, .slice bA bk bc, .bool bn', .slice bA' bk' bc'] 42)) := ((Below.refl _ _).alloc (Nat.le_refl _) _).alloc (by simp only [World.size_alloc]; omega) _
  have hsz : ((w.alloc (.cells #[.bool an, .slice aA ak ac, .bool an', .slice aA' ak' ac'] 42)).alloc (.cells #[.bool bn, .slice bA bk bc, .bool bn', .slice bA' bk' bc'] 42)).heap.size = w.heap.size + 1 + 1 := by simp
  generalize (w.alloc (.cells #[.bool an, .slice aA ak ac, .bool an', .slice aA' ak' ac'] 42)).alloc (.cells #[.bool bn, .slice bA bk bc, .bool bn', .slice bA' bk' bc'] 42) = W at *
  have HSZ := Lib.hid hsz
  clear hsz
  refine (P1.out W hBW).mono ?_
  rintro e w1 ⟨m1, B1, j1, d1, r1, m2, B2, j2, d2, r2, rfl, hj1, hj2, hl1, hl2, hW1, hW2, hs1, hs2, hb1⟩
  have hB0 := hB0.below hb1 hB0.lt
  have hB1 := hB1.below hb1 hB1.lt
  have hBW : Below w.heap.size w w1 := hBW.trans (hb1.mono hBW.size)
  have Z1 : ZIn w1 m1 B1 j1 d1 r1 x1 := ⟨hW1, hj1, hl1, hs1⟩
  have Z2 : ZIn w1 m2 B2 j2 d2 r2 x2 := ⟨hW2, hj2, hl2, hs2⟩
  have hB1 := (hB1.alloc (.cells #[.bool m1, .slice B1 j1 d1] 40)).alloc (.cells #[.bool m2, .slice B2 j2 d2] 40)
  obtain ⟨c0, c1, c2, c3, -, -, -, -⟩ := hB1.four
  clear hW1 hW2 hs1 hs2 hb1 hB0 HSZ P1
  go_wp2_with fail
  clear c0 c1 c2 c3
  have hC0 := (Blk.new w1 40 #[.bool m1, .slice B1 j1 d1]).alloc (.cells #[.bool m2, .slice B2 j2 d2] 40)
  have hC1 := Blk.new1 w1 (.cells #[.bool m1, .slice B1 j1 d1] 40) 40 #[.bool m2, .slice B2 j2 d2]
  have hBa : Below w1.heap.size w1 ((w1.alloc (.cells #[.bool m1, .slice B1 j1 d1] 40)).alloc (.cells #[.bool m2, .slice B2 j2 d2] 40)) := ((Below.refl _ _).alloc (Nat.le_refl _) _).alloc (by simp only [World.size_alloc]; omega) _
  have hsz : ((w1.alloc (.cells #[.bool m1, .slice B1 j1 d1] 40)).alloc (.cells #[.bool m2, .slice B2 j2 d2] 40)).heap.size = w1.heap.size + 1 + 1 := by simp
  generalize (w1.alloc (.cells #[.bool m1, .slice B1 j1 d1] 40)).alloc (.cells #[.bool m2, .slice B2 j2 d2] 40) = Wa at *
  have HSA := Lib.hid hsz
  clear hsz
  have hBa' : Below w.heap.size w Wa := hBW.trans (hBa.mono hBW.size)
  have Z1 := Z1.below hBa
  have Z2 := Z2.below hBa
  refine (P2.out Wa hBa').mono ?_
  rintro e w2 ⟨m3, B3, j3, d3, r3, m4, B4, j4, d4, r4, rfl, hj3, hj4, hl3, hl4, hW3, hW4, hs3, hs4, hb2⟩
  have hC0 := hC0.below hb2 hC0.lt
  have hC1 := hC1.below hb2 hC1.lt
  have Z1 := Z1.below hb2
  have Z2 := Z2.below hb2
  have hBb : Below w.heap.size w w2 := hBa'.trans (hb2.mono hBa'.size)
  have Z3 : ZIn w2 m3 B3 j3 d3 r3 x3 := ⟨hW3, hj3, hl3, hs3⟩
  have Z4 : ZIn w2 m4 B4 j4 d4 r4 x4 := ⟨hW4, hj4, hl4, hs4⟩
  clear hW3 hW4 hs3 hs4 hb2 hB1 P2 hBa hBa' hBW HSA
  go_wp2_with fail
  have hC0 := (hC0.alloc (.cells #[.bool m3, .slice B3 j3 d3] 40)).alloc (.cells #[.bool m4, .slice B4 j4 d4] 40)
  have hC1 := (hC1.alloc (.cells #[.bool m3, .slice B3 j3 d3] 40)).alloc (.cells #[.bool m4, .slice B4 j4 d4] 40)
  have hD0 := (Blk.new w2 40 #[.bool m3, .slice B3 j3 d3]).alloc (.cells #[.bool m4, .slice B4 j4 d4] 40)
  have hD1 := Blk.new1 w2 (.cells #[.bool m3, .slice B3 j3 d3] 40) 40 #[.bool m4, .slice B4 j4 d4]
  have hBc : Below w2.heap.size w2 ((w2.alloc (.cells #[.bool m3, .slice B3 j3 d3] 40)).alloc (.cells #[.bool m4, .slice B4 j4 d4] 40)) := ((Below.refl _ _).alloc (Nat.le_refl _) _).alloc (by simp only [World.size_alloc]; omega) _
  have hsz : ((w2.alloc (.cells #[.bool m3, .slice B3 j3 d3] 40)).alloc (.cells #[.bool m4, .slice B4 j4 d4] 40)).heap.size = w2.heap.size + 1 + 1 := by simp
  generalize (w2.alloc (.cells #[.bool m3, .slice B3 j3 d3] 40)).alloc (.cells #[.bool m4, .slice B4 j4 d4] 40) = Wb at *
  have HSB := Lib.hid hsz
  clear hsz
  have hBW : Below w.heap.size w Wb := hBb.trans (hBc.mono hBb.size)
  have hZ : ∀ w', Kp Wb w' → ZIn w' m1 B1 j1 d1 r1 x1 ∧ ZIn w' m2 B2 j2 d2 r2 x2 ∧ ZIn w' m3 B3 j3 d3 r3 x3 ∧ ZIn w' m4 B4 j4 d4 r4 x4 := fun w' hb => ⟨(Z1.below hBc).below hb, (Z2.below hBc).below hb, (Z3.below hBc).below hb, (Z4.below hBc).below hb⟩
  have G1 := fun w' (hb : Kp Wb w') => sign_any m1 B1 j1 d1 r1 w' (hZ w' hb).1.1 hj1 (by omega)
  have G3 := fun w' (hb : Kp Wb w') => sign_any m3 B3 j3 d3 r3 w' (hZ w' hb).2.2.1.1 hj3 (by omega)
  have L1 := fun w' (hb : Kp Wb w') => mul_in (hZ w' hb).1 (hZ w' hb).2.2.2
  have L2 := fun w' (hb : Kp Wb w') => mul_in (hZ w' hb).2.2.1 (hZ w' hb).2.1
  rw [Z1.2.2.2] at G1
  rw [Z3.2.2.2] at G3
  have G1 := Lib.hid G1
  have G3 := Lib.hid G3
  have L1 := Lib.hid L1
  have L2 := Lib.hid L2
  have LN1 := Lib.hid (len_mul Z1 Z4)
  have LN2 := Lib.hid (len_mul Z3 Z2)
  clear hZ Z1 Z2 Z3 Z4 hBc hBb HSB
  have s5 := Kp.refl Wb
  have hrg : ∀ x : Int, -1 ≤ cmpI x 0 ∧ cmpI x 0 ≤ 1 := fun x => by unfold cmpI; split <;> (try split) <;> omega
  obtain ⟨r1a, r1b⟩ := hrg x1
  obtain ⟨r3a, r3b⟩ := hrg x3
  generalize hg1 : cmpI x1 0 = g1 at *
  generalize hg3 : cmpI x3 0 = g3 at *
  have HG1 := Lib.hid hg1
  have HG3 := Lib.hid hg3
  clear hrg hg1 hg3
  have hS : ∀ w', Kp Wb w' → (w'.cell? ⟨w1.heap.size, 0, none⟩ = some (.bool m1) ∧ w'.cell? ⟨w1.heap.size, 1, none⟩ = some (.slice B1 j1 d1) ∧ w'.cell? ⟨w1.heap.size + 1, 0, none⟩ = some (.bool m2) ∧ w'.cell? ⟨w1.heap.size + 1, 1, none⟩ = some (.slice B2 j2 d2) ∧ w'.cell? ⟨w2.heap.size, 0, none⟩ = some (.bool m3) ∧ w'.cell? ⟨w2.heap.size, 1, none⟩ = some (.slice B3 j3 d3) ∧ w'.cell? ⟨w2.heap.size + 1, 0, none⟩ = some (.bool m4) ∧ w'.cell? ⟨w2.heap.size + 1, 1, none⟩ = some (.slice B4 j4 d4)) ∧ Kp Wb w' := fun w' hk => ⟨⟨(hk.blk hC0).cell 0, (hk.blk hC0).cell 1, (hk.blk hC1).cell 0, (hk.blk hC1).cell 1, (hk.blk hD0).cell 0, (hk.blk hD0).cell 1, (hk.blk hD1).cell 0, (hk.blk hD1).cell 1⟩, hk⟩
  have HS := Lib.hid hS
  clear hS
  go_region_held3 (fun w' => (w'.cell? ⟨w1.heap.size, 0, none⟩ = some (.bool m1) ∧ w'.cell? ⟨w1.heap.size, 1, none⟩ = some (.slice B1 j1 d1) ∧ w'.cell? ⟨w1.heap.size + 1, 0, none⟩ = some (.bool m2) ∧ w'.cell? ⟨w1.heap.size + 1, 1, none⟩ = some (.slice B2 j2 d2) ∧ w'.cell? ⟨w2.heap.size, 0, none⟩ = some (.bool m3) ∧ w'.cell? ⟨w2.heap.size, 1, none⟩ = some (.slice B3 j3 d3) ∧ w'.cell? ⟨w2.heap.size + 1, 0, none⟩ = some (.bool m4) ∧ w'.cell? ⟨w2.heap.size + 1, 1, none⟩ = some (.slice B4 j4 d4)) ∧ Kp Wb w')
    (first | (with_reducible refine HS.out _ ?_; with_reducible assumption) | (with_reducible refine HS.out _ (Kp.drew ?_); with_reducible assumption) | (with_reducible refine' HS.out _ (Kp.drew (And.right ?_)); rotate_left; with_reducible assumption))
    (first
      | (go_at_call_of 103 (Value.agg #[.bool m1, .slice B1 j1 d1]); have hk := And.right ‹_ ∧ Kp Wb _›; refine (G1.out _ hk).mono ?_; rintro e v1 ⟨rfl, hb1⟩; have hr1 := hk.trans hb1; clear hb1)
      | (go_at_call_of 103 (Value.agg #[.bool m3, .slice B3 j3 d3]); have hk := And.right ‹_ ∧ Kp Wb _›; refine (G3.out _ hk).mono ?_; rintro e v2 ⟨rfl, hb2⟩; have hr2 := hk.trans hb2; clear hb2))
  have hB2 : Below w.heap.size w v2 := hBW.trans (Below.mono hr2 hBW.size)
  clear G1 G3
  by_cases hc : g1 ≠ g3 ∨ g1 = 0
  · have hfin := HCS.out hc
    have HFIN := Lib.hid hfin
    have hc2 : (g1 != g3) = true ∨ ((g1 != g3) = false ∧ (g1 == 0) = true) := by
      by_cases h : g1 = g3
      · right; refine ⟨by simp [h], ?_⟩; rcases hc with h' | h'
        · exact absurd h h'
        · simp [h']
      · left; simpa using h
    have hws := wrap_in (g1 - g3) (by omega) (by omega)
    obtain ⟨ws1, ws2⟩ := hws
    clear hfin hc L1 L2
    rcases hc2 with h | ⟨h, h'⟩
    all_goals
      go_wp2_with fail
      refine (fsign_any (g1 - g3) v2).mono ?_
      rintro e w' ⟨rfl, rfl⟩
      go_wp2
      go_ret
      rw [HFIN.out]
      exact ⟨rfl, hB2⟩
  · have h1 : (g1 != g3) = false := by simp; omega
    have h2 : (g1 == 0) = false := by simp; omega
    have s6 : Kp Wb v2 := hr2
    clear hc
    have hXX : ∀ (v : World) (X1 X2 : Option Addr) (u1 u2 y1 y2 : Nat), u1 ≤ y1 → u2 ≤ y2 → Wat v X1 u1 (digs (x1 * x4).natAbs) → Wat v X2 u2 (digs (x3 * x2).natAbs) → u1 ≤ 9223372036854775807 → u2 ≤ 9223372036854775807 →
        Calls Tryz.prog 107 #[.agg #[.bool (decide (x1 * x4 < 0)), .slice X1 u1 y1], .agg #[.bool (decide (x3 * x2 < 0)), .slice X2 u2 y2]] v fun e w' => e = .returned (.int .i64 (cmpI (x1 * x4) (x3 * x2))) ∧ Below v.heap.size v w' := by
      intro v X1 X2 u1 u2 y1 y2 a1 a2 a3 a4 a5 a6
      have := cmp_any (decide (x1 * x4 < 0)) (decide (x3 * x2 < 0)) X1 X2 u1 u2 y1 y2 _ _ v a3 a4 a1 a2 a5 a6
      rwa [val_digs, val_digs, sg_self, sg_self] at this
    generalize hy1 : x1 * x4 = y1 at *
    generalize hy2 : x3 * x2 = y2 at *
    have HY1 := Lib.hid hy1
    have HY2 := Lib.hid hy2
    clear hy1 hy2
    have HXX := Lib.hid hXX
    clear hXX
    go_wp2_with fail
    have hS : ∀ w', Kp Wb w' → (w'.cell? ⟨w1.heap.size, 0, none⟩ = some (.bool m1) ∧ w'.cell? ⟨w1.heap.size, 1, none⟩ = some (.slice B1 j1 d1) ∧ w'.cell? ⟨w1.heap.size + 1, 0, none⟩ = some (.bool m2) ∧ w'.cell? ⟨w1.heap.size + 1, 1, none⟩ = some (.slice B2 j2 d2) ∧ w'.cell? ⟨w2.heap.size, 0, none⟩ = some (.bool m3) ∧ w'.cell? ⟨w2.heap.size, 1, none⟩ = some (.slice B3 j3 d3) ∧ w'.cell? ⟨w2.heap.size + 1, 0, none⟩ = some (.bool m4) ∧ w'.cell? ⟨w2.heap.size + 1, 1, none⟩ = some (.slice B4 j4 d4)) ∧ Kp Wb w' := fun w' hk => ⟨⟨(hk.blk hC0).cell 0, (hk.blk hC0).cell 1, (hk.blk hC1).cell 0, (hk.blk hC1).cell 1, (hk.blk hD0).cell 0, (hk.blk hD0).cell 1, (hk.blk hD1).cell 0, (hk.blk hD1).cell 1⟩, hk⟩
    have HS2 := Lib.hid hS
    clear hS
    go_region_held3 (fun w' => (w'.cell? ⟨w1.heap.size, 0, none⟩ = some (.bool m1) ∧ w'.cell? ⟨w1.heap.size, 1, none⟩ = some (.slice B1 j1 d1) ∧ w'.cell? ⟨w1.heap.size + 1, 0, none⟩ = some (.bool m2) ∧ w'.cell? ⟨w1.heap.size + 1, 1, none⟩ = some (.slice B2 j2 d2) ∧ w'.cell? ⟨w2.heap.size, 0, none⟩ = some (.bool m3) ∧ w'.cell? ⟨w2.heap.size, 1, none⟩ = some (.slice B3 j3 d3) ∧ w'.cell? ⟨w2.heap.size + 1, 0, none⟩ = some (.bool m4) ∧ w'.cell? ⟨w2.heap.size + 1, 1, none⟩ = some (.slice B4 j4 d4)) ∧ Kp Wb w')
      (first | (with_reducible refine HS2.out _ ?_; with_reducible assumption) | (with_reducible refine HS2.out _ (Kp.drew ?_); with_reducible assumption) | (with_reducible refine' HS2.out _ (Kp.drew (And.right ?_)); rotate_left; with_reducible assumption))
      (first
        | (go_at_call_of 108 (Value.agg #[.bool m1, .slice B1 j1 d1]); have hk := And.right ‹_ ∧ Kp Wb _›; refine (L1.out _ hk).mono ?_; rintro e v3 ⟨X1, u1, y3, rfl, hk1, hX1, hF1, hb1⟩; have hr3 := hk.trans hb1; clear hb1)
        | (go_at_call_of 108 (Value.agg #[.bool m3, .slice B3 j3 d3]); have hk := And.right ‹_ ∧ Kp Wb _›; refine (L2.out _ hk).mono ?_; rintro e v4 ⟨X2, u2, y4, rfl, hk2, hX2, hF2, hb2⟩; have hr4 := hk.trans hb2; have hX1 := hX1.below hb2; clear hb2)
        | (go_at_call 107; have hk := And.right ‹_ ∧ Kp Wb _›; refine (HXX.out _ X1 X2 u1 u2 y3 y4 hk1 hk2 hX1 hX2 (by have := LN1.out; rw [← hX1.1]; omega) (by have := LN2.out; rw [← hX2.1]; omega)).mono ?_; rintro e v5 ⟨rfl, hb5⟩; have hr5 := hk.trans hb5; clear hb5))
    have hB5 : Below w.heap.size w v5 := hBW.trans (Below.mono hr5 hBW.size)
    go_wp2
    go_ret
    rw [HY1.out, HY2.out]
    exact ⟨rfl, hB5⟩

/-- A call that reads two rationals and returns a rational box: the shape of Equal and Min. -/
theorem qequal_any {Nn Nd : Nat} (an an' bn bn' : Bool) (aA aA' bA bA' : Option Addr) (ak ac ak' ac' bk bc bk' bc' : Nat) (qa qb : Rat) (w : World)
    (ha : QAt Nn Nd w an aA ak ac an' aA' ak' ac' qa) (hb : QAt Nn Nd w bn bA bk bc bn' bA' bk' bc' qb) :
    Calls Tryz.prog 51 #[.agg #[.bool an, .slice aA ak ac, .bool an', .slice aA' ak' ac'], .agg #[.bool bn, .slice bA bk bc, .bool bn', .slice bA' bk' bc']] w fun e w' => e = .returned (.bool (decide (qa = qb))) ∧ Below w.heap.size w w' := by
  have T := fun W (hW : Below w.heap.size w W) => qcmp_any an an' bn bn' aA aA' bA bA' ak ac ak' ac' bk bc bk' bc' qa qb W (ha.below hW) (hb.below hW)
  have he : (cmpQ qa qb == 0) = decide (qa = qb) := by
    unfold cmpQ
    by_cases h : qa = qb
    · subst h; simp [Rat.lt_irrefl]
    · rcases (by grind : qa < qb ∨ qb < qa) with h1 | h1
      · rw [if_pos h1]; simp [h]
      · rw [if_neg (by grind), if_pos h1]; simp [h]
  rw [← he]
  generalize cmpQ qa qb = x at *
  have T := Lib.hid T
  clear he
  go_enter Tryz.func51, Tryz.ntmps51
  go_wp2_with fail
  have hB0 := (Blk.new w 42 #[.bool an, .slice aA ak ac, .bool an', .slice aA' ak' ac']).alloc (.cells #[.bool bn, .slice bA bk bc, .bool bn', .slice bA' bk' bc'] 42)
  have hB1 := Blk.new1 w (.cells #[.bool an, .slice aA ak ac, .bool an', .slice aA' ak' ac'] 42) 42 #[.bool bn, .slice bA bk bc, .bool bn', .slice bA' bk' bc']
  have hBW : Below w.heap.size w ((w.alloc (.cells #[.bool an, .slice aA ak ac, .bool an', .slice aA' ak' ac'] 42)).alloc (.cells #[.bool bn, .slice bA bk bc, .bool bn', .slice bA' bk' bc'] 42)) := ((Below.refl _ _).alloc (Nat.le_refl _) _).alloc (by simp only [World.size_alloc]; omega) _
  have hsz : ((w.alloc (.cells #[.bool an, .slice aA ak ac, .bool an', .slice aA' ak' ac'] 42)).alloc (.cells #[.bool bn, .slice bA bk bc, .bool bn', .slice bA' bk' bc'] 42)).heap.size = w.heap.size + 1 + 1 := by simp
  generalize (w.alloc (.cells #[.bool an, .slice aA ak ac, .bool an', .slice aA' ak' ac'] 42)).alloc (.cells #[.bool bn, .slice bA bk bc, .bool bn', .slice bA' bk' bc'] 42) = W at *
  have HSZ := Lib.hid hsz
  clear hsz
  refine (T.out W hBW).mono ?_
  rintro e w1 ⟨rfl, hb1⟩
  have hb1 : Below w.heap.size w w1 := hBW.trans (hb1.mono hBW.size)
  go_wp2
  go_ret
  exact ⟨rfl, hb1⟩

set_option maxHeartbeats 2000000 in
theorem qmin_any (M Nn Nd : Nat) (HO : WOK M) (hnm : Nn ≤ M) (hdm : Nd ≤ M) (an an' bn bn' : Bool) (aA aA' bA bA' : Option Addr) (ak ac ak' ac' bk bc bk' bc' : Nat) (qa qb : Rat) (w : World)
    (ha : QAt Nn Nd w an aA ak ac an' aA' ak' ac' qa) (hb : QAt Nn Nd w bn bA bk bc bn' bA' bk' bc' qb) :
    Calls Tryz.prog 98 #[.agg #[.bool an, .slice aA ak ac, .bool an', .slice aA' ak' ac'], .agg #[.bool bn, .slice bA bk bc, .bool bn', .slice bA' bk' bc']] w (RetQ w (if qb < qa then qb else qa)) := by
  have T := fun W (hW : Below w.heap.size w W) => qcmp_any bn bn' an an' bA bA' aA aA' bk bc bk' bc' ak ac ak' ac' qb qa W (hb.below hW) (ha.below hW)
  have C1 := fun W (hW : Below w.heap.size w W) => qcanon_any M Nn Nd HO hnm hdm an an' aA aA' ak ac ak' ac' qa W (ha.below hW)
  have C2 := fun W (hW : Below w.heap.size w W) => qcanon_any M Nn Nd HO hnm hdm bn bn' bA bA' bk bc bk' bc' qb W (hb.below hW)
  have hc : (qb < qa ∧ cmpQ qb qa < 0) ∨ (¬ qb < qa ∧ 0 ≤ cmpQ qb qa) := by
    unfold cmpQ
    by_cases h : qb < qa
    · left; rw [if_pos h]; exact ⟨h, by omega⟩
    · right; rw [if_neg h]; exact ⟨h, by split <;> omega⟩
  generalize cmpQ qb qa = x at *
  rcases hc with ⟨h1, h2⟩ | ⟨h1, h2⟩
  · rw [if_pos h1]
    have T := Lib.hid T
    have C2 := Lib.hid C2
    clear h1 C1
    go_enter Tryz.func98, Tryz.ntmps98
    go_wp2_with fail
    have hB0 := ((Blk.new w 42 #[.bool an, .slice aA ak ac, .bool an', .slice aA' ak' ac']).alloc (.cells #[.bool bn, .slice bA bk bc, .bool bn', .slice bA' bk' bc'] 42)).alloc (.cells #[.bool false, .slice none 0 0, .bool false, .slice none 0 0] 42)
    have hB1 := (Blk.new1 w (.cells #[.bool an, .slice aA ak ac, .bool an', .slice aA' ak' ac'] 42) 42 #[.bool bn, .slice bA bk bc, .bool bn', .slice bA' bk' bc']).alloc (.cells #[.bool false, .slice none 0 0, .bool false, .slice none 0 0] 42)
    have hB2 := Blk.new2 w (.cells #[.bool an, .slice aA ak ac, .bool an', .slice aA' ak' ac'] 42) (.cells #[.bool bn, .slice bA bk bc, .bool bn', .slice bA' bk' bc'] 42) 42 #[.bool false, .slice none 0 0, .bool false, .slice none 0 0]
    have hBW : Below w.heap.size w (((w.alloc (.cells #[.bool an, .slice aA ak ac, .bool an', .slice aA' ak' ac'] 42)).alloc (.cells #[.bool bn, .slice bA bk bc, .bool bn', .slice bA' bk' bc'] 42)).alloc (.cells #[.bool false, .slice none 0 0, .bool false, .slice none 0 0] 42)) := (((Below.refl _ _).alloc (Nat.le_refl _) _).alloc (by simp only [World.size_alloc]; omega) _).alloc (by simp only [World.size_alloc]; omega) _
    have hsz : (((w.alloc (.cells #[.bool an, .slice aA ak ac, .bool an', .slice aA' ak' ac'] 42)).alloc (.cells #[.bool bn, .slice bA bk bc, .bool bn', .slice bA' bk' bc'] 42)).alloc (.cells #[.bool false, .slice none 0 0, .bool false, .slice none 0 0] 42)).heap.size = w.heap.size + 1 + 1 + 1 := by simp
    generalize ((w.alloc (.cells #[.bool an, .slice aA ak ac, .bool an', .slice aA' ak' ac'] 42)).alloc (.cells #[.bool bn, .slice bA bk bc, .bool bn', .slice bA' bk' bc'] 42)).alloc (.cells #[.bool false, .slice none 0 0, .bool false, .slice none 0 0] 42) = W at *
    have HSZ := Lib.hid hsz
    clear hsz
    refine (T.out W hBW).mono ?_
    rintro e w1 ⟨rfl, hb1⟩
    have hB0 := hB0.below hb1 hB0.lt
    have hB1 := hB1.below hb1 hB1.lt
    have hB2 := hB2.below hb1 hB2.lt
    have hb1 : Below w.heap.size w w1 := hBW.trans (hb1.mono hBW.size)
    have hz1 : w.heap.size + 1 + 1 + 1 ≤ w1.heap.size := hB2.lt
    obtain ⟨c0, c1, c2, c5, -, -, -, -⟩ := hB1.four
    clear hBW HSZ T
    go_wp2_with fail
    refine (C2.out w1 hb1).mono ?_
    rintro e w3 ⟨A3, k3, c3, A4, k4, c4, rfl, hk3, hk4, hW3, hW4, hF3, hF4, hb3⟩
    have hr3 := (RS4.start hB2).call hb3
    obtain ⟨_, _, _, _, i0, i1, i2, i3, i4, i5, i6, i7⟩ := hr3.four
    have hBW := hb1
    have HSZ : Hid True := trivial
    have hfin := retQ_close hBW (by omega) (by have := HSZ.out; omega) hr3 hk3 hk4 hW3 hW4 hF3 hF4
    obtain ⟨d0, d1, d2, d3, -, -, -, -⟩ := (hr3.done (.bool (decide ((qb).num < 0))) (.slice A3 k3 c3) (.bool false) (.slice A4 k4 c4)).four
    have HF := Lib.hid hfin
    clear hfin hB0 hB1 hB2 HSZ c0 c1 c2 c5
    go_wp2
    refine bodyPost_ret (v := .agg #[.bool (decide ((qb).num < 0)), .slice A3 k3 c3, .bool false, .slice A4 k4 c4]) ?_ rfl HF.out
    simp [results, Tryz.results98, go_sem, d0, d1, d2, d3]
  · rw [if_neg h1]
    have T := Lib.hid T
    have C1 := Lib.hid C1
    clear h1 C2
    go_enter Tryz.func98, Tryz.ntmps98
    go_wp2_with fail
    have hB0 := ((Blk.new w 42 #[.bool an, .slice aA ak ac, .bool an', .slice aA' ak' ac']).alloc (.cells #[.bool bn, .slice bA bk bc, .bool bn', .slice bA' bk' bc'] 42)).alloc (.cells #[.bool false, .slice none 0 0, .bool false, .slice none 0 0] 42)
    have hB1 := (Blk.new1 w (.cells #[.bool an, .slice aA ak ac, .bool an', .slice aA' ak' ac'] 42) 42 #[.bool bn, .slice bA bk bc, .bool bn', .slice bA' bk' bc']).alloc (.cells #[.bool false, .slice none 0 0, .bool false, .slice none 0 0] 42)
    have hB2 := Blk.new2 w (.cells #[.bool an, .slice aA ak ac, .bool an', .slice aA' ak' ac'] 42) (.cells #[.bool bn, .slice bA bk bc, .bool bn', .slice bA' bk' bc'] 42) 42 #[.bool false, .slice none 0 0, .bool false, .slice none 0 0]
    have hBW : Below w.heap.size w (((w.alloc (.cells #[.bool an, .slice aA ak ac, .bool an', .slice aA' ak' ac'] 42)).alloc (.cells #[.bool bn, .slice bA bk bc, .bool bn', .slice bA' bk' bc'] 42)).alloc (.cells #[.bool false, .slice none 0 0, .bool false, .slice none 0 0] 42)) := (((Below.refl _ _).alloc (Nat.le_refl _) _).alloc (by simp only [World.size_alloc]; omega) _).alloc (by simp only [World.size_alloc]; omega) _
    have hsz : (((w.alloc (.cells #[.bool an, .slice aA ak ac, .bool an', .slice aA' ak' ac'] 42)).alloc (.cells #[.bool bn, .slice bA bk bc, .bool bn', .slice bA' bk' bc'] 42)).alloc (.cells #[.bool false, .slice none 0 0, .bool false, .slice none 0 0] 42)).heap.size = w.heap.size + 1 + 1 + 1 := by simp
    generalize ((w.alloc (.cells #[.bool an, .slice aA ak ac, .bool an', .slice aA' ak' ac'] 42)).alloc (.cells #[.bool bn, .slice bA bk bc, .bool bn', .slice bA' bk' bc'] 42)).alloc (.cells #[.bool false, .slice none 0 0, .bool false, .slice none 0 0] 42) = W at *
    have HSZ := Lib.hid hsz
    clear hsz
    refine (T.out W hBW).mono ?_
    rintro e w1 ⟨rfl, hb1⟩
    have hB0 := hB0.below hb1 hB0.lt
    have hB1 := hB1.below hb1 hB1.lt
    have hB2 := hB2.below hb1 hB2.lt
    have hb1 : Below w.heap.size w w1 := hBW.trans (hb1.mono hBW.size)
    have hz1 : w.heap.size + 1 + 1 + 1 ≤ w1.heap.size := hB2.lt
    obtain ⟨c0, c1, c2, c5, -, -, -, -⟩ := hB0.four
    clear hBW HSZ T
    go_wp2_with fail
    refine (C1.out w1 hb1).mono ?_
    rintro e w3 ⟨A3, k3, c3, A4, k4, c4, rfl, hk3, hk4, hW3, hW4, hF3, hF4, hb3⟩
    have hr3 := (RS4.start hB2).call hb3
    obtain ⟨_, _, _, _, i0, i1, i2, i3, i4, i5, i6, i7⟩ := hr3.four
    have hBW := hb1
    have HSZ : Hid True := trivial
    have hfin := retQ_close hBW (by omega) (by have := HSZ.out; omega) hr3 hk3 hk4 hW3 hW4 hF3 hF4
    obtain ⟨d0, d1, d2, d3, -, -, -, -⟩ := (hr3.done (.bool (decide ((qa).num < 0))) (.slice A3 k3 c3) (.bool false) (.slice A4 k4 c4)).four
    have HF := Lib.hid hfin
    clear hfin hB0 hB1 hB2 HSZ c0 c1 c2 c5
    go_wp2
    refine bodyPost_ret (v := .agg #[.bool (decide ((qa).num < 0)), .slice A3 k3 c3, .bool false, .slice A4 k4 c4]) ?_ rfl HF.out
    simp [results, Tryz.results98, go_sem, d0, d1, d2, d3]

end Go.Proofs.YtnjpojpfiijlfaaGreat

namespace Go.Proofs.YtnjpojpfiijlfaaGreat
set_option linter.unusedVariables false
set_option linter.unusedSimpArgs false
open Go.RowKit
open Wd

theorem wok_small : WOK 4611686018427387904 where
  add := addOK_small
  sub := subOK_small
  div := by
    intro A A' n n' c c' x y w h h' hx hy hn hn'
    exact divW_small A A' n n' c c' x y w h h' (by omega) hy hn hn'
  len := fun x hx => Nat.le_trans (len_le_two (by omega)) (by omega)

theorem whole_num {q : Rat} {n d z : Int} (hd : 0 < d) (h : q = mkRat n d.natAbs) (hz : q = (z : Rat)) : n = z * d := by
  rw [hz] at h
  have hd' : d.natAbs ≠ 0 := by omega
  have e1 := mk_num n d.natAbs hd'
  have e2 := mk_den n d.natAbs hd'
  rw [← h] at e1 e2
  have e3 : ((z : Rat)).num = z := rfl
  have e4 : ((z : Rat)).den = 1 := rfl
  rw [e3] at e1
  rw [e4] at e2
  have hg1 := Nat.gcd_dvd_right n.natAbs d.natAbs
  have hg2 := Nat.gcd_dvd_left n.natAbs d.natAbs
  generalize Nat.gcd n.natAbs d.natAbs = g at *
  have hgd : d.natAbs = g := by
    obtain ⟨k, hk⟩ := hg1
    have hg0 : 0 < g := by rcases Nat.eq_zero_or_pos g with h0 | h0; · rw [h0] at hk; omega
                           · exact h0
    rw [hk, Nat.mul_div_cancel_left _ hg0] at e2
    rw [hk, ← e2, Nat.mul_one]
  have hgd' : (g : Int) = d := by omega
  have hdv : (g : Int) ∣ n := Int.ofNat_dvd_left.2 hg2
  rw [e1, ← hgd', Int.tdiv_mul_cancel hdv]

theorem whole_parts {n d z : Int} {m1 m2 : Bool} {r1 r2 : List Nat} (hd : 0 < d) (h : n = z * d) (h1 : sg m1 (val r1) = n) (h2 : sg m2 (val r2) = d) : val r2 ≠ 0 ∧ val r2 ∣ val r1 ∧ sg (m1 != m2) (val r1 / val r2) = z := by
  have a1 : val r1 = n.natAbs := by rw [← h1, sg_natAbs]
  have a2 : val r2 = d.natAbs := by rw [← h2, sg_natAbs]
  have hp : 0 < d.natAbs := by omega
  have a3 : n.natAbs = z.natAbs * d.natAbs := by rw [h, Int.natAbs_mul]
  have a4 : n.natAbs / d.natAbs = z.natAbs := by rw [a3, Nat.mul_div_cancel _ hp]
  refine ⟨by omega, ?_, ?_⟩
  · rw [a1, a2, a3]; exact Nat.dvd_mul_left _ _
  · have hm2 : m2 = false := by
      cases m2
      · rfl
      · unfold sg at h2; simp at h2; omega
    subst hm2
    rw [a1, a2, a4]
    cases m1
    · have : 0 ≤ z := by
        by_cases hz : z < 0
        · have : n < 0 := by rw [h]; exact Int.mul_neg_of_neg_of_pos hz hd
          unfold sg at h1; simp at h1; omega
        · omega
      simp [sg]; omega
    · have : z ≤ 0 := by
        by_cases hz : 0 < z
        · have : 0 < n := by rw [h]; exact Int.mul_pos hz hd
          unfold sg at h1; simp at h1; omega
        · omega
      simp [sg]; omega

set_option maxRecDepth 100000 in
set_option maxHeartbeats 4000000 in
theorem qfloor_whole (M Nn Nd : Nat) (HO : WOK M) (hnm : Nn ≤ M) (an an' : Bool) (aA aA' : Option Addr) (ak ac ak' ac' : Nat) (z : Int) (w : World) (ha : QAt Nn Nd w an aA ak ac an' aA' ak' ac' (z : Rat)) :
    Calls Tryz.prog 210 #[.agg #[.bool an, .slice aA ak ac, .bool an', .slice aA' ak' ac']] w (RetZ w z) := by
  obtain ⟨na, da, hq, h1, h2, h3⟩ := ha
  have hz := whole_num (qden_pos da) h3 rfl
  have hd := qden_pos da
  have P := fun W hW => parts_in (w := W) (h := hq.below (w' := W) hW)
  generalize qnum na da = x1 at *
  generalize qden da = x2 at *
  have D := fun (m1 : Bool) (B1 : Option Addr) (j1 d1 : Nat) (r1 : List Nat) (m2 : Bool) (B2 : Option Addr) (j2 d2 : Nat) (r2 : List Nat) (W : World) (hj1 : j1 ≤ d1) (hj2 : j2 ≤ d2) (hl1 : j1 ≤ 10000000000) (hl2 : j2 ≤ 10000000000) (hW1 : Wat W B1 j1 r1) (hW2 : Wat W B2 j2 r2) (hs1 : sg m1 (val r1) = x1) (hs2 : sg m2 (val r2) = x2) =>
    divMod_exact M HO.div m1 m2 B1 B2 j1 j2 d1 d2 r1 r2 W hW1 hW2 hj1 hj2 hl1 hl2 (by have : val r1 = x1.natAbs := by rw [← hs1, sg_natAbs]
                                                                                      omega) (whole_parts hd hz hs1 hs2).1 (whole_parts hd hz hs1 hs2).2.1
  have D : ∀ (m1 : Bool) (B1 : Option Addr) (j1 d1 : Nat) (r1 : List Nat) (m2 : Bool) (B2 : Option Addr) (j2 d2 : Nat) (r2 : List Nat) (W : World) (hj1 : j1 ≤ d1) (hj2 : j2 ≤ d2) (hl1 : j1 ≤ 10000000000) (hl2 : j2 ≤ 10000000000) (hW1 : Wat W B1 j1 r1) (hW2 : Wat W B2 j2 r2) (hs1 : sg m1 (val r1) = x1) (hs2 : sg m2 (val r2) = x2),
      Calls Tryz.prog 167 #[.agg #[.bool m1, .slice B1 j1 d1], .agg #[.bool m2, .slice B2 j2 d2]] W (RetDM W z) := by
    intro m1 B1 j1 d1 r1 m2 B2 j2 d2 r2 W hj1 hj2 hl1 hl2 hW1 hW2 hs1 hs2
    have := D m1 B1 j1 d1 r1 m2 B2 j2 d2 r2 W hj1 hj2 hl1 hl2 hW1 hW2 hs1 hs2
    rwa [(whole_parts hd hz hs1 hs2).2.2] at this
  have P := Lib.hid P
  have D := Lib.hid D
  clear hz hd hq h1 h2 h3 hnm HO
  go_enter Tryz.func210, Tryz.ntmps210
  go_wp2_with fail
  have hB0 := (Blk.new w 42 #[.bool an, .slice aA ak ac, .bool an', .slice aA' ak' ac']).alloc (.cells #[.bool false, .slice none 0 0] 40)
  have hB1 := Blk.new1 w (.cells #[.bool an, .slice aA ak ac, .bool an', .slice aA' ak' ac'] 42) 40 #[.bool false, .slice none 0 0]
  have hBW : Below w.heap.size w ((w.alloc (.cells #[.bool an, .slice aA ak ac, .bool an', .slice aA' ak' ac'] 42)).alloc (.cells #[.bool false, .slice none 0 0] 40)) := ((Below.refl _ _).alloc (Nat.le_refl _) _).alloc (by simp only [World.size_alloc]; omega) _
  have hsz : ((w.alloc (.cells #[.bool an, .slice aA ak ac, .bool an', .slice aA' ak' ac'] 42)).alloc (.cells #[.bool false, .slice none 0 0] 40)).heap.size = w.heap.size + 1 + 1 := by simp
  generalize (w.alloc (.cells #[.bool an, .slice aA ak ac, .bool an', .slice aA' ak' ac'] 42)).alloc (.cells #[.bool false, .slice none 0 0] 40) = W at *
  have HSZ := Lib.hid hsz
  clear hsz
  refine (P.out W hBW).mono ?_
  rintro e w1 ⟨m1, B1, j1, d1, r1, m2, B2, j2, d2, r2, rfl, hj1, hj2, hl1, hl2, hW1, hW2, hs1, hs2, hb1⟩
  have hB0 := hB0.below hb1 hB0.lt
  have hB1 := hB1.below hb1 hB1.lt
  have hBW : Below w.heap.size w w1 := hBW.trans (hb1.mono hBW.size)
  clear hb1 HSZ P
  have hs1 := Lib.hid hs1
  have hs2 := Lib.hid hs2
  go_wp2_with fail
  refine (D.out m1 B1 j1 d1 r1 m2 B2 j2 d2 r2 w1 hj1 hj2 hl1 hl2 hW1 hW2 hs1.out hs2.out).mono ?_
  rintro e w2 ⟨A3, k3, c3, rfl, hk3, hW3, hF3, hb2⟩
  have hr := (RS.start hB1).call hb2
  have hBW : Below w.heap.size w w1 := hBW
  have hb3 : Below w2.heap.size w2 ((w2.alloc (.cells #[.bool (decide (z < 0)), .slice A3 k3 c3] 40)).alloc (.cells #[.bool false, .slice none 0 0] 40)) := ((Below.refl _ _).alloc (Nat.le_refl _) _).alloc (by simp only [World.size_alloc]; omega) _
  have hr := hr.call hb3
  have hF3 := hF3.keep hW3 hb3
  have hW3 := hW3.below hb3
  obtain ⟨_, _, i0, i1, i2, i3⟩ := hr.two
  have HSZ : Hid (w.heap.size + 1 < w1.heap.size) := hB1.lt
  clear hb2 hb3 hB0 hB1
  have hfin := retZ_close hBW (by omega) (by have := HSZ.out; omega) hr hk3 hW3 hF3
  obtain ⟨d0, d1, -, -⟩ := (hr.done (.bool (decide (z < 0))) (.slice A3 k3 c3)).two
  have HF := Lib.hid hfin
  clear hfin hW1 hW2
  go_wp2
  refine bodyPost_ret (v := .agg #[.bool (decide (z < 0)), .slice A3 k3 c3]) ?_ rfl HF.out
  simp [results, Tryz.results210, go_sem, d0, d1]

end Go.Proofs.YtnjpojpfiijlfaaGreat
