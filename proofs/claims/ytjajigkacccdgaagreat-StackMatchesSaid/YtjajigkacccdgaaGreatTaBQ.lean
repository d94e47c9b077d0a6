/-
The references of layers 2 and 23: Is, Rows. append onto rows of the call's own, with the block of the result. No statement of the seat is proved here; no conditions beyond those of each theorem.
-/
import Derived.Test.YtjajigkacccdgaaGreatTaBP
import Derived.Test.YtjajigkacccdgaaGreatTaAF
import Derived.Maps.AppendAt
namespace Go.Proofs.YtjajigkacccdgaaGreat
set_option linter.unusedVariables false
set_option linter.unusedSimpArgs false
open Go.RowKit
open Wd

set_option maxRecDepth 100000 in
set_option maxHeartbeats 1000000 in
theorem ris_yes (q : Rat) (A B A' B' : Option Addr) (k c k' c' d d' : Nat) (w : World) (h : WQ w q A k c A' k' c') (h' : WQ w q B k d B' k' d') (hk : k ≤ 1000000) (hk' : k' ≤ 1000000) :
  Calls Tryz.prog 34 #[.agg #[.bool (decide (q.num < 0)), .slice A k c, .bool false, .slice A' k' c'], .agg #[.bool (decide (q.num < 0)), .slice B k d, .bool false, .slice B' k' d']] w fun e w' => e = .returned (.bool true) ∧ Below w.heap.size w w' := by
 have T1 := Lib.hid (fun W (hW : Below w.heap.size w W) => rsame_yes (decide (q.num < 0)) A B k c d _ W (h.2.2.1.below hW) (h'.2.2.1.below hW) hk)
 have T2 := Lib.hid (fun W (hW : Below w.heap.size w W) => rsame_yes false A' B' k' c' d' _ W (h.2.2.2.below hW) (h'.2.2.2.below hW) hk')
 generalize decide (q.num < 0) = s at *
 clear h h'
 go_enter Tryz.func34, Tryz.ntmps34
 go_wp2_with fail
 obtain ⟨hB0, hB1, hBW, hsz⟩ := pre2 w 42 #[.bool s, .slice A k c, .bool false, .slice A' k' c'] 42 #[.bool s, .slice B k d, .bool false, .slice B' k' d']
 generalize (w.alloc (.cells #[.bool s, .slice A k c, .bool false, .slice A' k' c'] 42)).alloc (.cells #[.bool s, .slice B k d, .bool false, .slice B' k' d'] 42) = W at *
 have HSZ := Lib.hid hsz
 clear hsz
 refine (T1.out W hBW).mono ?_
 rintro e w1 ⟨rfl, hb1⟩
 have hB0 := hB0.below hb1 hB0.lt
 have hB1 := hB1.below hb1 hB1.lt
 have hb2 := hBW.trans (hb1.mono hBW.size)
 obtain ⟨a0, a1, a2, a3, -, -, -, -⟩ := hB0.four
 obtain ⟨b0, b1, b2, b3, -, -, -, -⟩ := hB1.four
 have hT2 := T2.out w1 hb2
 have HB2 := Lib.hid hb2
 have HT2 := Lib.hid hT2
 clear hb1 hb2 hBW T1 T2 hT2 hB0 hB1
 go_wp2_with fail
 refine HT2.out.mono ?_
 rintro e w2 ⟨rfl, hb3⟩
 have hfin := HB2.out.trans (hb3.mono HB2.out.size)
 have HF := Lib.hid hfin
 clear hfin hb3 HT2
 go_wp2
 go_ret
 exact ⟨rfl, HF.out⟩

/-- A row of canonical rationals, wherever it lies. -/
def QsAt (w : World) (A : Option Addr) (n : Nat) (ps : List Rat) : Prop :=
 ps.length = n ∧ (n ≠ 0 → ∃ b o, A = some ⟨b, o, none⟩ ∧ b < w.heap.size ∧ ∀ j, j < n → ∃ A1 k c A2 k' c',
  w.cell? ⟨b, o + j * 4, none⟩ = some (.bool (decide ((ps[j]?.getD 0).num < 0))) ∧ w.cell? ⟨b, o + j * 4 + 1, none⟩ = some (.slice A1 k c) ∧ w.cell? ⟨b, o + j * 4 + 2, none⟩ = some (.bool false) ∧ w.cell? ⟨b, o + j * 4 + 3, none⟩ = some (.slice A2 k' c') ∧
  WQ w (ps[j]?.getD 0) A1 k c A2 k' c')
theorem QsAt.below {w w' : World} {A : Option Addr} {n : Nat} {ps : List Rat} (h : QsAt w A n ps) (hb : Below w.heap.size w w') : QsAt w' A n ps := by
 refine ⟨h.1, fun h0 => ?_⟩
 obtain ⟨b, o, e, hlt, hc⟩ := h.2 h0
 refine ⟨b, o, e, Nat.lt_of_lt_of_le hlt hb.size, fun j hj => ?_⟩
 obtain ⟨A1, k, c, A2, k', c', g0, g1, g2, g3, g4⟩ := hc j hj
 exact ⟨A1, k, c, A2, k', c', (hb.cell (p := ⟨b, _, none⟩) hlt).trans g0, (hb.cell (p := ⟨b, _, none⟩) hlt).trans g1, (hb.cell (p := ⟨b, _, none⟩) hlt).trans g2, (hb.cell (p := ⟨b, _, none⟩) hlt).trans g3, g4.below hb⟩
theorem QRow.at {w : World} {g n : Nat} {ps : List Rat} (h : QRow w g n ps) : QsAt w (some ⟨g, 0, none⟩) n ps := by
 obtain ⟨h1, cs, h2, h3, h4, h5⟩ := h
 refine ⟨h1, fun h0 => ⟨g, 0, rfl, h2.lt, fun j hj => ?_⟩⟩
 obtain ⟨A, k, c, A', k', c', e0, e1, e2, e3, g1, g2, g3, g4⟩ := h5 j hj
 refine ⟨A, k, c, A', k', c', ?_, ?_, ?_, ?_, g1, g2, g3, g4⟩
 ·rw [Nat.zero_add, h2.cell]; exact e0
 ·rw [Nat.zero_add, h2.cell]; exact e1
 ·rw [Nat.zero_add, h2.cell]; exact e2
 ·rw [Nat.zero_add, h2.cell]; exact e3
theorem Wat.len {w : World} {A : Option Addr} {n : Nat} {l : List Nat} (h : Wat w A n l) : n = l.length := h.1.symm

set_option maxRecDepth 100000 in
set_option maxHeartbeats 1000000 in
theorem rrows_yes (A B : Option Addr) (n c d : Nat) (ps : List Rat) (w : World) (h : QsAt w A n ps) (h' : QsAt w B n ps) (hn : n ≤ 1000000) (hs : ∀ p ∈ ps, (digs p.num.natAbs).length ≤ 1000000 ∧ (denW p.den).length ≤ 1000000) :
  Calls Tryz.prog 33 #[.slice A n c, .slice B n d] w fun e w' => e = .returned (.bool true) ∧ Below w.heap.size w w' := by
 have HX := Lib.hid h
 have HY := Lib.hid h'
 have HSZ := Lib.hid hs
 have hne : ((n : Int) != (n : Int)) = false := by simp
 clear h h' hs
 go_enter Tryz.func33, Tryz.ntmps33
 go_wp2_with fail
 go_loopw [5] (fun t wr => ∃ k : Nat, k ≤ n ∧ t = .int .i64 k ∧ Hid (Below w.heap.size w wr)) (fun t _ => n - (intOf t).toNat)
 case atStart => exact ⟨0, Nat.zero_le _, rfl, Below.refl _ _⟩
 case round =>
  obtain ⟨k, hk, rfl, hB⟩ := hrel
  by_cases hlt : k < n
  ·obtain ⟨b, o, rfl, hb, hc⟩ := HX.out.2 (by omega)
   obtain ⟨b', o', rfl, hb', hc'⟩ := HY.out.2 (by omega)
   obtain ⟨A1, k1, d1, A2, k2, d2, e0, e1, e2, e3, e4⟩ := hc k hlt
   obtain ⟨B1, k3, d3, B2, k4, d4, f0, f1, f2, f3, f4⟩ := hc' k hlt
   have hp := HSZ.out (ps[k]?.getD 0) (by rw [List.getElem?_eq_getElem (by rw [HX.out.1]; exact hlt)]; exact List.getElem_mem _)
   obtain rfl : k1 = k3 := e4.2.2.1.len.trans f4.2.2.1.len.symm
   obtain rfl : k2 = k4 := e4.2.2.2.len.trans f4.2.2.2.len.symm
   have T := fun W (hW : Kp wr W) => ris_yes _ A1 B1 A2 B2 k1 d1 k2 d2 d3 d4 W ((e4.below hB.out).below hW) ((f4.below hB.out).below hW) (by rw [e4.2.2.1.len]; exact hp.1) (by rw [e4.2.2.2.len]; exact hp.2)
   have HT := Lib.hid T
   have hki1 : (0 : Int) ≤ (k : Int) := by omega
   have hki2 : (k : Int) < (n : Int) := by omega
   have c0 := (hB.out.cell (p := ⟨b, o + k * 4, none⟩) hb).trans e0
   have c1 := (hB.out.cell (p := ⟨b, o + k * 4 + 1, none⟩) hb).trans e1
   have c2 := (hB.out.cell (p := ⟨b, o + k * 4 + 2, none⟩) hb).trans e2
   have c3 := (hB.out.cell (p := ⟨b, o + k * 4 + 3, none⟩) hb).trans e3
   have g0 := (hB.out.cell (p := ⟨b', o' + k * 4, none⟩) hb').trans f0
   have g1 := (hB.out.cell (p := ⟨b', o' + k * 4 + 1, none⟩) hb').trans f1
   have g2 := (hB.out.cell (p := ⟨b', o' + k * 4 + 2, none⟩) hb').trans f2
   have g3 := (hB.out.cell (p := ⟨b', o' + k * 4 + 3, none⟩) hb').trans f3
   generalize decide ((ps[k]?.getD 0).num < 0) = s at *
   have hb1 : b < wr.heap.size := Nat.lt_of_lt_of_le hb hB.out.size
   have hb1' : b' < wr.heap.size := Nat.lt_of_lt_of_le hb' hB.out.size
   have hS : ∀ w', Kp wr w' → (w'.cell? ⟨b, o + k * 4, none⟩ = some (.bool s) ∧ w'.cell? ⟨b, o + k * 4 + 1, none⟩ = some (.slice A1 k1 d1) ∧ w'.cell? ⟨b, o + k * 4 + 2, none⟩ = some (.bool false) ∧ w'.cell? ⟨b, o + k * 4 + 3, none⟩ = some (.slice A2 k2 d2) ∧ w'.cell? ⟨b', o' + k * 4, none⟩ = some (.bool s) ∧ w'.cell? ⟨b', o' + k * 4 + 1, none⟩ = some (.slice B1 k1 d3) ∧ w'.cell? ⟨b', o' + k * 4 + 2, none⟩ = some (.bool false) ∧ w'.cell? ⟨b', o' + k * 4 + 3, none⟩ = some (.slice B2 k2 d4)) ∧ Kp wr w' := fun w' hk => ⟨⟨(hk.cell (p := ⟨b, _, none⟩) hb1).trans c0, (hk.cell (p := ⟨b, _, none⟩) hb1).trans c1, (hk.cell (p := ⟨b, _, none⟩) hb1).trans c2, (hk.cell (p := ⟨b, _, none⟩) hb1).trans c3, (hk.cell (p := ⟨b', _, none⟩) hb1').trans g0, (hk.cell (p := ⟨b', _, none⟩) hb1').trans g1, (hk.cell (p := ⟨b', _, none⟩) hb1').trans g2, (hk.cell (p := ⟨b', _, none⟩) hb1').trans g3⟩, hk⟩
   have HS := Lib.hid hS
   have k0 := Kp.refl wr
   clear hc hc' T e0 e1 e2 e3 e4 f0 f1 f2 f3 f4 hp hS c0 c1 c2 c3 g0 g1 g2 g3
   go_wp2_with fail
   go_region_held3 (fun w' => (w'.cell? ⟨b, o + k * 4, none⟩ = some (.bool s) ∧ w'.cell? ⟨b, o + k * 4 + 1, none⟩ = some (.slice A1 k1 d1) ∧ w'.cell? ⟨b, o + k * 4 + 2, none⟩ = some (.bool false) ∧ w'.cell? ⟨b, o + k * 4 + 3, none⟩ = some (.slice A2 k2 d2) ∧ w'.cell? ⟨b', o' + k * 4, none⟩ = some (.bool s) ∧ w'.cell? ⟨b', o' + k * 4 + 1, none⟩ = some (.slice B1 k1 d3) ∧ w'.cell? ⟨b', o' + k * 4 + 2, none⟩ = some (.bool false) ∧ w'.cell? ⟨b', o' + k * 4 + 3, none⟩ = some (.slice B2 k2 d4)) ∧ Kp wr w')
    (first | (with_reducible refine HS.out _ ?_; with_reducible assumption) | (with_reducible refine HS.out _ (Kp.drew ?_); with_reducible assumption) | (with_reducible refine' HS.out _ (Kp.drew (And.right ?_)); rotate_left; with_reducible assumption))
    (first
     | (go_at_call 34; have hk := And.right ‹_ ∧ Kp wr _›; refine (HT.out _ hk).mono ?_; rintro e w2 ⟨rfl, hb3⟩; have hk3 := hk.trans hb3))
   have hfin := hB.out.trans (Below.mono hk3 hB.out.size)
   have HF := Lib.hid hfin
   clear hfin hb3 HT
   go_wp2
   go_roundw
   case rel => exact ⟨k + 1, by omega, by go_num, HF.out⟩
   case measure => simp [intOf]; omega
  ·obtain rfl : k = n := by omega
   go_wp2
   go_ret
   exact ⟨rfl, hB.out⟩

end Go.Proofs.YtjajigkacccdgaaGreat

namespace Go.Proofs.YtjajigkacccdgaaGreat
set_option linter.unusedVariables false
set_option linter.unusedSimpArgs false
open Go.RowKit
open Wd

/-- The block of B' is that of B or new at w. -/
def SameOr (w : World) (B B' : Option Addr) : Prop := B'.map (fun a => a.block) = B.map (fun a => a.block) ∨ B'.map (fun a => a.block) = some w.heap.size

theorem run_append_at {P : Program} {w : World} {base : Nat} {t ty e : TypeId} {i : TypeInfo} {z : Value} {size bytes : Nat} (ht : P.underlying t = some (.slice e)) (hi : P.info? e = some i) (hz : i.zero = some z)
  (hsize : i.size = size) (hby : i.bytes = bytes) (hzs : z.cells.size = size) (hsz : 0 < size)
  {B : Option Addr} {n cb : Nat} {xs : List Value} (hown : Own base e size w B n cb xs) {A : Option Addr} {m c : Nat} {news : List Value} (hs : SrcAt w A m size news)
  (h63 : n + m ≤ maxLen) (hbytes : (n + m) * bytes ≤ 140737488355328) (hbase : base ≤ w.heap.size) :
  ∃ B' cb' w', (Builtin.append_ #[t, t] ty #[.slice B n cb, .slice A m c]).run P w = .ok (.slice B' (n + m) cb') w' ∧ Own base e size w' B' (n + m) cb' (xs ++ news) ∧ Below base w w' ∧ Kept w w' B ∧ SameOr w B B' := by
 obtain ⟨h1, h2, h3⟩ := hs
 rcases h3 with ⟨rfl, rfl⟩ | ⟨ad, rfl, h3⟩
 ·have e1 : news = [] := List.eq_nil_of_length_eq_zero (by simpa using h1)
  subst e1
  refine ⟨B, cb, w, ?_, by simpa using hown, Below.refl _ _, ⟨Nat.le_refl _, fun _ _ _ => rfl⟩, Or.inl rfl⟩
  have hle : n ≤ cb := by
   rcases hown.2 with ⟨h4, _⟩ | ⟨g, cap, cur, h4, _, _, hnc, _⟩
   ·simp at h4; omega
   ·simp at h4; omega
  rcases hown.2 with ⟨h4, h5⟩ | ⟨g, cap, cur, h4, _, _, hnc, _⟩
  ·simp at h4
   obtain ⟨rfl, rfl, rfl⟩ := h4
   simp [Builtin.append_, run_underlying ht, sizeOf, typeInfo, hi, Builtin.lenOf, Builtin.firstCells]
  ·simp at h4
   obtain ⟨rfl, rfl⟩ := h4
   simp [Builtin.append_, run_underlying ht, sizeOf, typeInfo, hi, Builtin.lenOf, Builtin.firstCells, hnc, storeCells]
 ·obtain ⟨v', w', hr, ho, hg, _, hsame⟩ := run_append_own_at (P := P) (w := w) base t ty e i z size bytes ht hi hz hsize hby hzs hsz _ n xs hown ad m c news h1 h3 h2 h63 hbytes hbase
  have hB : Below base w w' := ⟨hg.os, hg.tape, hg.output, hg.size, fun k hk => hg.block k (by omega) fun he => by have := (hown.lt k he.symm).1; omega⟩
  have eo : ∀ X : Option Addr, ∀ a b, (Value.slice X a b).ownBlock = X.map (fun a => a.block) := fun X a b => by cases X <;> rfl
  have hK : Kept w w' B := ⟨hg.size, fun k hk hne => hg.block k hk fun he => hne (by rw [eo] at he; exact he.symm)⟩
  rcases ho.2 with ⟨rfl, h5⟩ | ⟨g, cap, cur, rfl, _⟩
  ·exact ⟨none, 0, w', by rw [hr, h5], by rw [h5] at ho ⊢; exact ho, hB, hK, by simpa [SameOr, eo] using hsame⟩
  ·exact ⟨some ⟨g, 0, none⟩, cap, w', hr, ho, hB, hK, by simpa [SameOr, eo] using hsame⟩

theorem wp_append_at {P : Program} {w : World} {o : Oper} {a : Act} {K : Act → World → Prop} {Q : Exit → Act → World → Prop} (s x : Operand) (t : TypeId)
  (ho : o.op = .call { callee := .builtin .append, args := #[s, x], argTypes := #[t, t] })
  {base : Nat} {e : TypeId} {i : TypeInfo} {z : Value} {size bytes : Nat} (ht : P.underlying t = some (.slice e)) (hi : P.info? e = some i) (hz : i.zero = some z)
  (hsize : i.size = size) (hby : i.bytes = bytes) (hzs : z.cells.size = size) (hsz : 0 < size)
  {B : Option Addr} {n cb : Nat} {xs : List Value} (hss : a.eval s = .slice B n cb) (hown : Own base e size w B n cb xs) {A : Option Addr} {m c : Nat} {news : List Value} (hx : a.eval x = .slice A m c) (hs : SrcAt w A m size news)
  (h63 : n + m ≤ maxLen) (hbytes : (n + m) * bytes ≤ 140737488355328) (hbase : base ≤ w.heap.size)
  (h : ∀ B' cb' w', Own base e size w' B' (n + m) cb' (xs ++ news) → Below base w w' → Kept w w' B → SameOr w B B' → K (a.put o.dst (.slice B' (n + m) cb')) w') : o.wp P a w K Q := by
 obtain ⟨B', cb', w', hr, h2, h3, h4, h5⟩ := run_append_at (P := P) (ty := o.type) (c := c) ht hi hz hsize hby hzs hsz hown hs h63 hbytes hbase
 unfold Oper.wp execOp
 simp only [ho, resolve, invoke, builtin, Sem.run_bind, Sem.run_pure, Result.andThen_ok, List.map_toArray, List.map_cons, List.map_nil, hss, hx, hr]
 exact h B' cb' w' h2 h3 h4 h5


/-- At a step of a list of operations. -/
theorem wpList_append_at {P : Program} {w : World} {ops : Array Oper} {rest : List Oper} {o : Oper} {a : Act} {Q : Exit → Act → World → Prop} (hg : o.guard = none) (s x : Operand) (t : TypeId)
  (ho : o.op = .call { callee := .builtin .append, args := #[s, x], argTypes := #[t, t] })
  {base : Nat} {e : TypeId} {i : TypeInfo} {z : Value} {size bytes : Nat} (ht : P.underlying t = some (.slice e)) (hi : P.info? e = some i) (hz : i.zero = some z)
  (hsize : i.size = size) (hby : i.bytes = bytes) (hzs : z.cells.size = size) (hsz : 0 < size)
  {B : Option Addr} {n cb : Nat} {xs : List Value} (hss : a.eval s = .slice B n cb) (hown : Own base e size w B n cb xs) {A : Option Addr} {m c : Nat} {news : List Value} (hx : a.eval x = .slice A m c) (hs : SrcAt w A m size news)
  (h63 : n + m ≤ maxLen) (hbytes : (n + m) * bytes ≤ 140737488355328) (hbase : base ≤ w.heap.size)
  (h : ∀ B' cb' w', Own base e size w' B' (n + m) cb' (xs ++ news) → Below base w w' → Kept w w' B → SameOr w B B' → wpList P ops Q rest (a.put o.dst (.slice B' (n + m) cb')) w') :
  wpList P ops Q (o :: rest) a w :=
 wpList_plain hg fun K hK => wp_append_at s x t ho ht hi hz hsize hby hzs hsz hss hown hx hs h63 hbytes hbase fun B' cb' w' h1 h2 h3 h4 => hK _ _ (h B' cb' w' h1 h2 h3 h4)

end Go.Proofs.YtjajigkacccdgaaGreat
