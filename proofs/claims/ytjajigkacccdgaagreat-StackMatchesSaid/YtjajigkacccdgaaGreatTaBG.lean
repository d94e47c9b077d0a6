/-
The statements of layer 24: told. No statement of the seat is proved here; no conditions beyond those of each theorem.
-/
import Derived.Test.YtjajigkacccdgaaGreatTaBA
import Derived.Test.YtjajigkacccdgaaGreatTaAF
namespace Go.Proofs.YtjajigkacccdgaaGreat
set_option linter.unusedVariables false
set_option linter.unusedSimpArgs false
open Go.RowKit
open Wd

/-- A level in memory: price, quantity, where its parts lie and their capacity. -/
abbrev Ent := Int × Int × Option Addr × Nat
def eCells (n : Nat) (es : List Ent) : List Value := es.flatMap fun e => [.int .i64 e.1, .int .i64 e.2.1, .slice e.2.2.1 n e.2.2.2]
theorem eCells_append (n : Nat) (a b : List Ent) : eCells n (a ++ b) = eCells n a ++ eCells n b := by simp [eCells]
theorem eCells_len (n : Nat) (l : List Ent) : (eCells n l).length = l.length * 3 := by
 induction l with
 | nil => rfl
 | cons s l ih =>
  have : eCells n (s :: l) = [.int .i64 s.1, .int .i64 s.2.1, .slice s.2.2.1 n s.2.2.2] ++ eCells n l := by simp [eCells]
  rw [this, List.length_append, ih]
  simp
  omega
def Ent0 : Ent := (0, 0, none, 0)
theorem eCells_get (n : Nat) : ∀ (l : List Ent) (j : Nat), j < l.length → (eCells n l)[j * 3]? = some (.int .i64 (l[j]?.getD Ent0).1) ∧ (eCells n l)[j * 3 + 1]? = some (.int .i64 (l[j]?.getD Ent0).2.1) ∧ (eCells n l)[j * 3 + 2]? = some (.slice (l[j]?.getD Ent0).2.2.1 n (l[j]?.getD Ent0).2.2.2)
 | [], j, h => absurd h (by simp)
 | s :: l, 0, _ => by simp [eCells]
 | s :: l, j + 1, h => by
  have e : eCells n (s :: l) = .int .i64 s.1 :: .int .i64 s.2.1 :: .slice s.2.2.1 n s.2.2.2 :: eCells n l := by simp [eCells]
  have ih := eCells_get n l j (by simpa using h)
  rw [e, show (j + 1) * 3 = j * 3 + 1 + 1 + 1 by omega, show j * 3 + 1 + 1 + 1 + 1 = (j * 3 + 1) + 1 + 1 + 1 by omega, show j * 3 + 1 + 1 + 1 + 2 = (j * 3 + 2) + 1 + 1 + 1 by omega]
  simp only [List.getElem?_cons_succ]
  exact ih
theorem eCells_one (n : Nat) (l : List Ent) : ∀ u ∈ eCells n l, u.oneCell' = true := by
 intro u hu
 obtain ⟨s, _, h⟩ := List.mem_flatMap.1 hu
 simp at h
 rcases h with rfl | rfl | rfl <;> rfl
theorem Own.low {base base' : Nat} {e : TypeId} {size : Nat} {w : World} {A : Option Addr} {n c : Nat} {xs : List Value} (h : Own base e size w A n c xs) (hb : base' ≤ base) : Own base' e size w A n c xs := by
 refine ⟨h.1, ?_⟩
 rcases h.2 with h2 | ⟨g, cap, cur, h2, h3, h4⟩
 ·exact Or.inl h2
 ·exact Or.inr ⟨g, cap, cur, h2, Nat.le_trans hb h3, h4⟩
/-- The entries stand for the first i levels, their parts in rows of the call's own. -/
def EntsO (base n : Nat) (lv : List St.Lv) (w : World) (i : Nat) (es : List Ent) : Prop :=
 es.length = i ∧ ∀ j, j < i → (es[j]?.getD Ent0).1 = (lv[j]?.getD Lv0).1 ∧ (es[j]?.getD Ent0).2.1 = (lv[j]?.getD Lv0).2.1 ∧ Own base 2 1 w (es[j]?.getD Ent0).2.2.1 n (es[j]?.getD Ent0).2.2.2 ((lv[j]?.getD Lv0).2.2.map (Value.int .i64))
theorem Own.levels {base : Nat} {e : TypeId} {w : World} {A : Option Addr} {m n c : Nat} {es : List Ent} {lv : List St.Lv} (h : Own base e 3 w A m c (eCells n es)) (hl : lv.length = m) (he : EntsO base n lv w m es) : LvAt w A m n lv := by
 refine ⟨hl, fun hn => ?_⟩
 have hel := he.1
 have hcl := eCells_len n es
 obtain ⟨g, cap, hv, hb, hlt⟩ := World.ownsRow.form h (by omega)
 simp at hv
 obtain ⟨rfl, rfl⟩ := hv
 refine ⟨g, 0, rfl, hlt, fun j hj => ?_⟩
 obtain ⟨g1, g2, g3⟩ := eCells_get n es j (by omega)
 obtain ⟨e1, e2, e3⟩ := he.2 j hj
 rw [Nat.zero_add, World.ownsRow.cellAt h (j * 3) (by omega), World.ownsRow.cellAt h (j * 3 + 1) (by omega), World.ownsRow.cellAt h (j * 3 + 2) (by omega), g1, g2, g3, e1, e2]
 exact ⟨_, _, ⟨rfl, rfl, rfl⟩, e3.ints⟩
theorem EntsO.below {base n : Nat} {lv : List St.Lv} {w w' : World} {i : Nat} {es : List Ent} (h : EntsO base n lv w i es) (hb : Below w.heap.size w w') : EntsO base n lv w' i es :=
 ⟨h.1, fun j hj => ⟨(h.2 j hj).1, (h.2 j hj).2.1, (h.2 j hj).2.2.keep hb⟩⟩
theorem EntsO.far {base base' n m d : Nat} {lv : List St.Lv} {w w' : World} {i : Nat} {es : List Ent} {B : Option Addr} {e' : TypeId} {size' : Nat} {ys : List Value} (h : EntsO base n lv w i es) (h' : Own base' e' size' w B m d ys) (hne : 2 ≠ e') (hk : Kept w w' B) : EntsO base n lv w' i es :=
 ⟨h.1, fun j hj => ⟨(h.2 j hj).1, (h.2 j hj).2.1, (h.2 j hj).2.2.far h' hne hk⟩⟩
theorem EntsO.snoc {base n : Nat} {lv : List St.Lv} {w : World} {i : Nat} {es : List Ent} {x : Ent} (h : EntsO base n lv w i es) (h1 : x.1 = (lv[i]?.getD Lv0).1) (h2 : x.2.1 = (lv[i]?.getD Lv0).2.1) (h3 : Own base 2 1 w x.2.2.1 n x.2.2.2 ((lv[i]?.getD Lv0).2.2.map (Value.int .i64))) : EntsO base n lv w (i + 1) (es ++ [x]) := by
 have hl := h.1
 refine ⟨by simp [hl], fun j hj => ?_⟩
 by_cases hji : j < i
 ·rw [List.getElem?_append_left (by omega)]
  exact h.2 j hji
 ·obtain rfl : j = i := by omega
  rw [List.getElem?_append_right (by omega), hl, Nat.sub_self]
  exact ⟨h1, h2, h3⟩
theorem info_rlevel : (Tryz.prog.info? 105).map (fun i => (i.zero, i.size, i.bytes)) = some (some (.agg #[.int .i64 0, .int .i64 0, .slice none 0 0]), 3, 40) := by kernel_rfl

set_option maxRecDepth 100000 in
set_option maxHeartbeats 4000000 in
theorem told_any (A : Option Addr) (m n c : Nat) (lv : List St.Lv) (w : World) (h : LvAt w A m n lv) (hm : m ≤ 1000000) (hn : n ≤ 1000000) :
  Calls Tryz.prog 19 #[.slice A m c] w fun e w' => ∃ A1 c1, e = .returned (.slice A1 m c1) ∧ LvAt w' A1 m n lv ∧ Below w.heap.size w w' := by
 have HX := Lib.hid h
 obtain ⟨ii, hii, hz0, hz1, hz2⟩ := info_parts info_rlevel
 have HI := Lib.hid hii
 have HZ0 := Lib.hid hz0
 have HZ1 := Lib.hid hz1
 have HZ2 := Lib.hid hz2
 obtain ⟨ji, hji, jz0, jz1, jz2⟩ := info_parts info_int64
 have JI := Lib.hid hji
 have JZ0 := Lib.hid jz0
 have JZ1 := Lib.hid jz1
 have JZ2 := Lib.hid jz2
 clear h hii hz0 hz1 hz2 hji jz0 jz1 jz2
 go_enter Tryz.func19, Tryz.ntmps19
 go_wp2_with fail
 go_loopw [3, 4] (fun th t wr => ∃ (i : Nat) (Ah : Option Addr) (ch : Nat) (es : List Ent), i ≤ m ∧ t = .int .i64 (i : Int) ∧ th = .slice Ah i ch ∧ Hid (Below w.heap.size w wr ∧ Own w.heap.size 105 3 wr Ah i ch (eCells n es) ∧ EntsO w.heap.size n lv wr i es)) (fun _ t _ => m - (intOf t).toNat)
 case atStart => exact ⟨0, none, 0, [], Nat.zero_le _, rfl, rfl, Below.refl _ _, Own.nil _ _ _ _, rfl, fun j hj => absurd hj (by omega)⟩
 case round =>
  obtain ⟨i, Ah, ch, es, hi, rfl, rfl, hR⟩ := hrel
  by_cases hlt : i < m
  ·obtain ⟨hB, hO, hE⟩ := hR.out
   obtain ⟨b, o, rfl, hb, hc⟩ := HX.out.2 (by omega)
   obtain ⟨A', c', ⟨e0, e1, e2⟩, hp⟩ := hc i hlt
   have i1 : (0 : Int) ≤ (i : Int) := by omega
   have i2 : (i : Int) < (m : Int) := by omega
   have hxe : lv[i]?.getD Lv0 = ((lv[i]?.getD Lv0).1, (lv[i]?.getD Lv0).2.1, (lv[i]?.getD Lv0).2.2) := rfl
   generalize (lv[i]?.getD Lv0).1 = pz at *
   generalize (lv[i]?.getD Lv0).2.1 = qz at *
   generalize (lv[i]?.getD Lv0).2.2 = xs at *
   have HXE := Lib.hid hxe
   have hS : ∀ w', Below w.heap.size w w' → (w'.cell? ⟨b, o + i * 3, none⟩ = some (.int .i64 pz) ∧ w'.cell? ⟨b, o + i * 3 + 1, none⟩ = some (.int .i64 qz) ∧ w'.cell? ⟨b, o + i * 3 + 2, none⟩ = some (.slice A' n c')) ∧ Below w.heap.size w w' := fun w' hk => ⟨⟨(hk.cell (p := ⟨b, _, none⟩) hb).trans e0, (hk.cell (p := ⟨b, _, none⟩) hb).trans e1, (hk.cell (p := ⟨b, _, none⟩) hb).trans e2⟩, hk⟩
   have HS := Lib.hid hS
   have q0 := hB
   have k0 := (Kp.refl wr).alloc (.cells #[] 2)
   have q1 : Below w.heap.size w (wr.alloc (.cells #[] 2)) := hB.trans (Below.mono k0 hB.size)
   have o1 : Own wr.heap.size 2 1 (wr.alloc (.cells #[] 2)) (some ⟨wr.heap.size, 0, none⟩) 0 0 [] := Own.made wr (Nat.le_refl _)
   have HSR := Lib.hid (fun W (hW : Below w.heap.size w W) => (hp.below hW).src)
   have HRR := Lib.hid (And.intro hO hE)
   have him : i ≤ 1000000 := by omega
   clear hc hR hS hxe e0 e1 e2 hp hO hE
   go_wp2_with fail
   go_region_held3 (fun w' => (w'.cell? ⟨b, o + i * 3, none⟩ = some (.int .i64 pz) ∧ w'.cell? ⟨b, o + i * 3 + 1, none⟩ = some (.int .i64 qz) ∧ w'.cell? ⟨b, o + i * 3 + 2, none⟩ = some (.slice A' n c')) ∧ Below w.heap.size w w')
    (first | exact HS.out _ g2 | exact HS.out _ g3 | exact HS.out _ g1 | exact HS.out _ q0.drew | exact HS.out _ q1.drew)
    (first
     | (refine step_append_my (base := wr.heap.size) (e := 2) (size := 1) (bytes := 8) (by rfl) (.tmp 22) (.tmp 27) 62 rfl Tryz.underlying62 JI.out JZ0.out JZ1.out JZ2.out rfl (by decide) (xs := []) (news := xs.map (Value.int .i64)) rfl (by exact o1) rfl (HSR.out _ (by exact q1.drew)) (by simp only [maxLen]; omega) (by omega) (Below.size (w := wr) (B := wr.heap.size) (by exact k0.drew)) ?_
        intro B1 cb1 w1 hO1 hb1 hk1
        have k1 : Kp wr w1 := Below.trans (by exact k0.drew) hb1
        have g1 : Below w.heap.size w w1 := q0.trans (Below.mono k1 q0.size)
        simp only [Nat.zero_add, List.nil_append] at hO1 ⊢
        have a2 : Kp w1 (w1.alloc (.cells #[.int .i64 pz, .int .i64 qz, .slice B1 n cb1] 105)) := (Kp.refl w1).alloc _
        have g2 : Below w.heap.size w (w1.alloc (.cells #[.int .i64 pz, .int .i64 qz, .slice B1 n cb1] 105)) := g1.trans (Below.mono a2 g1.size)
        have o2 := (HRR.out.1.keep k1).keep a2
        have m2 := Blk.new w1 105 #[.int .i64 pz, .int .i64 qz, .slice B1 n cb1]
        clear hb1 hk1)
     | (refine step_append_my (base := w.heap.size) (e := 105) (size := 3) (bytes := 40) (by rfl) (.tmp 11) (.tmp 30) 25 rfl Tryz.underlying25 HI.out HZ0.out HZ1.out HZ2.out rfl (by decide) (xs := eCells n es) (news := [.int .i64 pz, .int .i64 qz, .slice B1 n cb1]) rfl (by exact o2) rfl (by exact Blk.src m2 rfl (eCells_one n [(pz, qz, B1, cb1)])) (by simp only [maxLen]; omega) (by omega) (Below.size (w := w) (B := w.heap.size) (by exact g2)) ?_
        intro B2 cb2 w2 hO2 hb2 hk2
        have g3 : Below w.heap.size w w2 := Below.trans (by exact g2) hb2
        have hk2' : Kept (w1.alloc (.cells #[.int .i64 pz, .int .i64 qz, .slice B1 n cb1] 105)) w2 Ah := hk2
        clear hb2 hk2))
   have hfin : Below w.heap.size w w2 ∧ Own w.heap.size 105 3 w2 B2 (i + 1) cb2 (eCells n (es ++ [(pz, qz, B1, cb1)])) ∧ EntsO w.heap.size n lv w2 (i + 1) (es ++ [(pz, qz, B1, cb1)]) := by
    refine ⟨g3, ?_, ?_⟩
    ·rw [eCells_append]
     exact hO2
    ·have he1 := (HRR.out.2.below k1).snoc (x := (pz, qz, B1, cb1)) (by rw [HXE.out]) (by rw [HXE.out]) (by rw [HXE.out]; exact hO1.low q0.size)
     exact (he1.below a2).far o2 (by decide) hk2'
   have HF := Lib.hid hfin
   clear hfin g3 hO2 hk2' o2 m2 g2 a2 hO1 k1 g1
   go_wp2
   go_roundw
   case rel => exact ⟨i + 1, B2, cb2, _, by omega, by go_num, rfl, HF.out⟩
   case measure => simp [intOf]; omega
  ·obtain rfl : i = m := by omega
   obtain ⟨hB, hO, hE⟩ := hR.out
   have HF := Lib.hid (show LvAt wr Ah i n lv ∧ Below w.heap.size w wr from ⟨hO.levels HX.out.1 hE, hB⟩)
   clear hR hB hO hE
   go_wp2
   go_ret
   exact ⟨Ah, ch, rfl, HF.out⟩

end Go.Proofs.YtjajigkacccdgaaGreat
