/-
The reference of layer 2 at rationals of any size: Add. No statement of the seat is proved here; no conditions beyond those of each theorem.
-/
import Derived.Test.YtodkhjihkkmplaaGreatLRb9
import Derived.Test.YtodkhjihkkmplaaGreatLSp
namespace Go.Proofs.YtodkhjihkkmplaaGreat
set_option linter.unusedVariables false
set_option linter.unusedSimpArgs false
open Go.RowKit
open Wd

/-- What each operation leaves, one after another. -/
def Vr : List (Value → World → Prop) → Nat → Value → World → Prop
  | [], _, _, _ => True
  | p :: _, 0, v, w => p v w
  | _ :: l, j + 1, v, w => Vr l j v w
def Stay (p : Value → World → Prop) : Prop := ∀ v w w', p v w → Kp w w' → p v w'
theorem Vr.keep : ∀ {l : List (Value → World → Prop)} (_ : ∀ p ∈ l, Stay p) (j : Nat) (v : Value) (w w' : World), Vr l j v w → Kp w w' → Vr l j v w'
  | [], _, _, _, _, _, _, _ => trivial
  | p :: l, h, 0, v, w, w', hv, hk => h p (List.mem_cons_self ..) v w w' hv hk
  | _ :: l, h, j + 1, v, w, w', hv, hk => Vr.keep (l := l) (fun p hp => h p (List.mem_cons_of_mem _ hp)) j v w w' hv hk
/-- A plain value; an integer of the reference; a natural number; a new block. -/
def Vis (x v : Value) (_ : World) : Prop := v = x
def Vz (z : Int) (v : Value) (w : World) : Prop := ∃ A k c, v = .agg #[.bool (decide (z < 0)), .slice A k c] ∧ ZK w (decide (z < 0)) A k z
def Vn (n : Nat) (v : Value) (w : World) : Prop := ∃ A k c, v = .agg #[.bool false, .slice A k c] ∧ ZK w false A k (n : Int)
def Vb (W : World) (t : TypeId) (cs : Array Value) (v : Value) (w : World) : Prop := ∃ g, v = .pointer (some ⟨g, 0, none⟩) ∧ Blk w g t cs ∧ W.heap.size ≤ g
theorem Vis.stay (x : Value) : Stay (Vis x) := fun _ _ _ h _ => h
theorem Vz.stay (z : Int) : Stay (Vz z) := fun _ _ _ ⟨A, k, c, h1, h2⟩ hk => ⟨A, k, c, h1, h2.below hk⟩
theorem Vn.stay (n : Nat) : Stay (Vn n) := fun _ _ _ ⟨A, k, c, h1, h2⟩ hk => ⟨A, k, c, h1, h2.below hk⟩
theorem Vb.stay (W : World) (t : TypeId) (cs : Array Value) : Stay (Vb W t cs) := fun _ _ _ ⟨g, h1, h2, h3⟩ hk => ⟨g, h1, Kp.blk hk h2, h3⟩
theorem call_via {P : Program} {f : FuncId} {args args' : Array Value} {w : World} {R : Ending → World → Prop} (h : Calls P f args w R) (e : args' = args) : Calls P f args' w R := e ▸ h
theorem kp_new {cur v : World} {o : Obj} (h : cur.alloc o = v) : Kp cur v := h ▸ (Kp.refl cur).alloc o
theorem blk_new {cur v : World} {t : TypeId} {cs : Array Value} (h : cur.alloc (.cells cs t) = v) : Blk v cur.heap.size t cs := h ▸ Blk.new cur t cs
section
variable {cur v W : World} {g g' : Nat} {t t' : TypeId} {x0 x1 a b : Value} {cs' : Array Value}
theorem blk_st (hv : (cur.setCell ⟨g, 0, none⟩ a).setCell ⟨g, 1, none⟩ b = v) (h : Blk cur g t #[x0, x1]) : Blk v g t #[a, b] := hv ▸ h.set2 a b
theorem blk_stf (hv : (cur.setCell ⟨g, 0, none⟩ a).setCell ⟨g, 1, none⟩ b = v) (h : Blk cur g' t' cs') (hne : g ≠ g') : Blk v g' t' cs' :=
  hv ▸ (h.far (p := ⟨g, 0, none⟩) hne.symm a).far (p := ⟨g, 1, none⟩) hne.symm b
theorem kp_st (hv : (cur.setCell ⟨g, 0, none⟩ a).setCell ⟨g, 1, none⟩ b = v) (h : Kp W cur) (hg : W.heap.size ≤ g) : Kp W v :=
  hv ▸ (Below.setCell h (p := ⟨g, 0, none⟩) hg a).setCell (p := ⟨g, 1, none⟩) hg b
theorem zk_st {y0 : Bool} {y1 : Option Addr} {k c : Nat} {e0 : Bool} {e1 : Option Addr} {e2 e3 : Nat} {s : Bool} {A : Option Addr} {n : Nat} {z : Int} (hv : (cur.setCell ⟨g, 0, none⟩ (.bool e0)).setCell ⟨g, 1, none⟩ (.slice e1 e2 e3) = v) (h : Blk cur g t #[.bool y0, .slice y1 k c]) (hZ : ZK cur s A n z) : ZK v s A n z := by
  obtain ⟨l, h1, h2⟩ := hZ
  subst hv
  refine ⟨l, ?_, h2⟩
  have n0 : NoInt #[.bool y0, .slice y1 k c] := by
    intro i x k hi
    rcases i with _ | _ | i <;> simp at hi
  exact (h1.setQ h n0 0 _).setQ (h.set 0 (.bool e0)) (n0.set 0 (.bool e0) (by simp)) 1 _
end
set_option maxRecDepth 100000 in
set_option maxHeartbeats 8000000 in
theorem raddq_s {s : Nat} (hs : s ≤ 1000000000) (an an' bn bn' : Bool) (A A' B B' : Option Addr) (n c n' c' m d m' d' : Nat) (qa qb : Rat) (w : World) (ha : QS s w an A n c an' A' n' c' qa) (hb : QS s w bn B m d bn' B' m' d' qb) :
    Calls Tryz.prog 49 #[.agg #[.bool an, .slice A n c, .bool an', .slice A' n' c'], .agg #[.bool bn, .slice B m d, .bool bn', .slice B' m' d']] w (RetQ w (qa + qb)) := by
  obtain ⟨na, da, hQ, h1, h2, hq, h0⟩ := ha.qz (by omega)
  obtain ⟨nb, db, hR, g1, g2, hr, g0⟩ := hb.qz (by omega)
  have LEN1 := Lib.hid (wb_half h1 (by omega))
  have LEN6 := Lib.hid (wb_half g1 (by omega))
  have LEN8 := Lib.hid (wb_half h2 (by omega))
  have LEN3 := Lib.hid (wb_half g2 (by omega))
  have LEN24 := LEN8
  have LEN26 := LEN3
  have h3 := Nat.mul_lt_mul'' h1 g2
  have h4 := Nat.mul_lt_mul'' g1 h2
  have h5 := wb_mul s s
  have LEN4 := Lib.hid (show (hd (qnum na da * ((qden db).natAbs : Int)).natAbs).length ≤ 6000000000 by rw [Int.natAbs_mul, Int.natAbs_natCast]; exact wb_mul_half h1 g2 hs)
  have LEN9 := Lib.hid (show (hd (qnum nb db * ((qden da).natAbs : Int)).natAbs).length ≤ 6000000000 by rw [Int.natAbs_mul, Int.natAbs_natCast]; exact wb_mul_half g1 h2 hs)
  have LEN22 := Lib.hid (show (hd (qnum na da * ((qden db).natAbs : Int) + qnum nb db * ((qden da).natAbs : Int)).natAbs).length ≤ 6000000000 by
    refine wb_half (s := s + s + 1) (Nat.lt_of_le_of_lt (Int.natAbs_add_le _ _) ?_) (by omega)
    rw [Int.natAbs_mul, Int.natAbs_natCast, Int.natAbs_mul, Int.natAbs_natCast]
    omega)
  have LEN27 := Lib.hid (show (hd ((qden da).natAbs * (qden db).natAbs)).length ≤ 6000000000 from wb_mul_half h2 g2 hs)
  have hv0 : (qden da).natAbs * (qden db).natAbs ≠ 0 := Nat.mul_ne_zero h0 g0
  have hy : qa + qb = mkRat (qnum na da * ((qden db).natAbs : Int) + qnum nb db * ((qden da).natAbs : Int)) ((qden da).natAbs * (qden db).natAbs) := by rw [hq, hr, Rat.mkRat_add_mkRat _ _ h0 g0]
  generalize qa + qb = y at *
  clear ha hb h1 h2 g1 g2 hq hr h0 g0 h3 h4 h5
  go_enter Tryz.func49, Tryz.ntmps49
  go_wp2_with fail
  have hB0 := ((Blk.new w 31 #[.bool an, .slice A n c, .bool an', .slice A' n' c']).alloc (.cells #[.bool bn, .slice B m d, .bool bn', .slice B' m' d'] 31)).alloc (.cells #[.bool false, .slice none 0 0, .bool false, .slice none 0 0] 31)
  have hB1 := (Blk.new1 w (.cells #[.bool an, .slice A n c, .bool an', .slice A' n' c'] 31) 31 #[.bool bn, .slice B m d, .bool bn', .slice B' m' d']).alloc (.cells #[.bool false, .slice none 0 0, .bool false, .slice none 0 0] 31)
  have hB2 := Blk.new2 w (.cells #[.bool an, .slice A n c, .bool an', .slice A' n' c'] 31) (.cells #[.bool bn, .slice B m d, .bool bn', .slice B' m' d'] 31) 31 #[.bool false, .slice none 0 0, .bool false, .slice none 0 0]
  have hBW : Below w.heap.size w (((w.alloc (.cells #[.bool an, .slice A n c, .bool an', .slice A' n' c'] 31)).alloc (.cells #[.bool bn, .slice B m d, .bool bn', .slice B' m' d'] 31)).alloc (.cells #[.bool false, .slice none 0 0, .bool false, .slice none 0 0] 31)) := (((Below.refl _ _).alloc (Nat.le_refl _) _).alloc (by simp only [World.size_alloc]; omega) _).alloc (by simp only [World.size_alloc]; omega) _
  have hsz : (((w.alloc (.cells #[.bool an, .slice A n c, .bool an', .slice A' n' c'] 31)).alloc (.cells #[.bool bn, .slice B m d, .bool bn', .slice B' m' d'] 31)).alloc (.cells #[.bool false, .slice none 0 0, .bool false, .slice none 0 0] 31)).heap.size = w.heap.size + 1 + 1 + 1 := by simp
  generalize ((w.alloc (.cells #[.bool an, .slice A n c, .bool an', .slice A' n' c'] 31)).alloc (.cells #[.bool bn, .slice B m d, .bool bn', .slice B' m' d'] 31)).alloc (.cells #[.bool false, .slice none 0 0, .bool false, .slice none 0 0] 31) = W at *
  have HSZ := Lib.hid hsz
  clear hsz
  have HBW := Lib.hid hBW
  have TN := Lib.hid (fun W' (hW : Kp W W') => rnum_z an an' A A' n c n' c' na da W' (hQ.below (HBW.out.trans (Below.mono hW HBW.out.size))))
  have TD := Lib.hid (fun W' (hW : Kp W W') => rden_z an an' A A' n c n' c' na da W' (hQ.below (HBW.out.trans (Below.mono hW HBW.out.size))))
  have TN2 := Lib.hid (fun W' (hW : Kp W W') => rnum_z bn bn' B B' m d m' d' nb db W' (hR.below (HBW.out.trans (Below.mono hW HBW.out.size))))
  have TD2 := Lib.hid (fun W' (hW : Kp W W') => rden_z bn bn' B B' m d m' d' nb db W' (hR.below (HBW.out.trans (Below.mono hW HBW.out.size))))
  have TM := Lib.hid (fun W' (s t : Bool) (C D : Option Addr) (j e j' e' : Nat) (hC : ZK W' s C j (qnum na da)) (hD : ZK W' t D j' ((qden db).natAbs : Int)) => rmul_z s t C D j e j' e' (qnum na da) ((qden db).natAbs : Int) W' hC hD)
  have TM2 := Lib.hid (fun W' (s t : Bool) (C D : Option Addr) (j e j' e' : Nat) (hC : ZK W' s C j (qnum nb db)) (hD : ZK W' t D j' ((qden da).natAbs : Int)) => rmul_z s t C D j e j' e' (qnum nb db) ((qden da).natAbs : Int) W' hC hD)
  have TM3 := Lib.hid (fun W' (C D : Option Addr) (j e j' e' : Nat) (hC : ZK W' false C j ((qden da).natAbs : Int)) (hD : ZK W' false D j' ((qden db).natAbs : Int)) => (rmul_z false false C D j e j' e' ((qden da).natAbs : Int) ((qden db).natAbs : Int) W' hC hD).mono fun _ _ h => RetZ.toN (v := (qden da).natAbs * (qden db).natAbs) (by rw [Int.natCast_mul]; exact h))
  generalize qnum na da * ((qden db).natAbs : Int) = z4 at *
  generalize qnum nb db * ((qden da).natAbs : Int) = z9 at *
  have TA := Lib.hid (fun W' (s t : Bool) (C D : Option Addr) (j e j' e' : Nat) (hC : ZK W' s C j z4) (hD : ZK W' t D j' z9) => radd_z s t C D j e j' e' z4 z9 W' hC hD)
  have TO := Lib.hid (fun W' (s : Bool) (C D : Option Addr) (j e j' e' : Nat) (hC : ZK W' s C j (z4 + z9)) (hD : ZK W' false D j' ((((qden da).natAbs * (qden db).natAbs : Nat)) : Int)) => rover_z s C D j e j' e' (z4 + z9) ((qden da).natAbs * (qden db).natAbs) W' hC hD hv0)
  rw [← hy] at TO
  generalize z4 + z9 = z22 at *
  generalize (qden da).natAbs * (qden db).natAbs = v27 at *
  generalize qnum na da = z1 at *
  generalize qnum nb db = z6 at *
  generalize (qden da).natAbs = v8 at *
  generalize (qden db).natAbs = v3 at *
  have HS := Lib.hid (show ∀ w', Kp W w' → (w'.cell? ⟨w.heap.size, 0, none⟩ = some (.bool an) ∧ w'.cell? ⟨w.heap.size, 1, none⟩ = some (.slice A n c) ∧ w'.cell? ⟨w.heap.size, 2, none⟩ = some (.bool an') ∧ w'.cell? ⟨w.heap.size, 3, none⟩ = some (.slice A' n' c') ∧ w'.cell? ⟨w.heap.size + 1, 0, none⟩ = some (.bool bn) ∧ w'.cell? ⟨w.heap.size + 1, 1, none⟩ = some (.slice B m d) ∧ w'.cell? ⟨w.heap.size + 1, 2, none⟩ = some (.bool bn') ∧ w'.cell? ⟨w.heap.size + 1, 3, none⟩ = some (.slice B' m' d')) ∧ Kp W w' from fun w' hk => ⟨⟨(hk.blk hB0).cell 0, (hk.blk hB0).cell 1, (hk.blk hB0).cell 2, (hk.blk hB0).cell 3, (hk.blk hB1).cell 0, (hk.blk hB1).cell 1, (hk.blk hB1).cell 2, (hk.blk hB1).cell 3⟩, hk⟩)
  have HB2 := Lib.hid hB2
  have HB0 := Lib.hid hB0
  have HB1 := Lib.hid hB1
  clear hQ hR hy hv0 hB0 hB1 hB2 hBW
  go_upto_region 1 with fail
  go_cut [5, 6] (fun s t wx => ∃ g5 g6 A4 k4 c4 A9 k9 c9, s = .pointer (some ⟨g5, 0, none⟩) ∧ t = .pointer (some ⟨g6, 0, none⟩) ∧ Hid (Kp W wx ∧ Blk wx g5 29 #[.bool (decide (z4 < 0)), .slice A4 k4 c4] ∧ ZK wx (decide (z4 < 0)) A4 k4 z4 ∧ Blk wx g6 29 #[.bool (decide (z9 < 0)), .slice A9 k9 c9] ∧ ZK wx (decide (z9 < 0)) A9 k9 z9))
  case first =>
    refine wp_region_gather 12 2 (fun f => ⟨#[Value.agg #[Value.bool an, Value.slice A n c, Value.bool an', Value.slice A' n' c'], Value.agg #[Value.bool bn, Value.slice B m d, Value.bool bn', Value.slice B' m' d'], .pointer (some ⟨w.heap.size, 0, none⟩), .pointer (some ⟨w.heap.size + 1, 0, none⟩), .pointer (some ⟨w.heap.size + 1 + 1, 0, none⟩), f 10, f 11, f 0, f 1, f 2, f 3, f 4, f 5, f 6, f 7, f 8, f 9, undef, undef, undef, undef, undef, undef, undef, undef, undef], []⟩) (fun _ => undef) (Vr [Vis (Value.agg #[Value.bool an, Value.slice A n c, Value.bool an', Value.slice A' n' c']), Vz z1, Vis (Value.agg #[Value.bool bn, Value.slice B m d, Value.bool bn', Value.slice B' m' d']), Vn v3, Vz z4, Vis (Value.agg #[Value.bool bn, Value.slice B m d, Value.bool bn', Value.slice B' m' d']), Vz z6, Vis (Value.agg #[Value.bool an, Value.slice A n c, Value.bool an', Value.slice A' n' c']), Vn v8, Vz z9, Vb W 29 #[.bool false, .slice none 0 0], Vb W 29 #[.bool false, .slice none 0 0]]) (fun i j v u => (i = 10 ∨ i = 11) → (j = 10 ∨ j = 11) → v ≠ u) (fun w' => (w'.cell? ⟨w.heap.size, 0, none⟩ = some (.bool an) ∧ w'.cell? ⟨w.heap.size, 1, none⟩ = some (.slice A n c) ∧ w'.cell? ⟨w.heap.size, 2, none⟩ = some (.bool an') ∧ w'.cell? ⟨w.heap.size, 3, none⟩ = some (.slice A' n' c') ∧ w'.cell? ⟨w.heap.size + 1, 0, none⟩ = some (.bool bn) ∧ w'.cell? ⟨w.heap.size + 1, 1, none⟩ = some (.slice B m d) ∧ w'.cell? ⟨w.heap.size + 1, 2, none⟩ = some (.bool bn') ∧ w'.cell? ⟨w.heap.size + 1, 3, none⟩ = some (.slice B' m' d')) ∧ Kp W w') Kp (by kernel_rfl) (by kernel_rfl) rfl (HS.out _ (Kp.drew (Kp.refl W))) (Vr.keep (by simp only [List.forall_mem_cons]; exact ⟨Vis.stay _, Vz.stay _, Vis.stay _, Vn.stay _, Vz.stay _, Vis.stay _, Vz.stay _, Vis.stay _, Vn.stay _, Vz.stay _, Vb.stay _ _ _, Vb.stay _ _ _, fun _ h => by cases h⟩)) ?step ?fin
    case step =>
      intro i hi f w' K hS hn hK
      rcases (show i = 0 ∨ i = 1 ∨ i = 2 ∨ i = 3 ∨ i = 4 ∨ i = 5 ∨ i = 6 ∨ i = 7 ∨ i = 8 ∨ i = 9 ∨ i = 10 ∨ i = 11 by omega) with rfl | rfl | rfl | rfl | rfl | rfl | rfl | rfl | rfl | rfl | rfl | rfl
      · refine wpOp_step rfl (fun K' hK' => ?_)
        obtain ⟨⟨a0, a1, a2, a3, a4, a5, a6, a7⟩, hkp⟩ := hS
        go_simp
        exact hK' _ _ (hK _ w' (HS.out _ hkp) (Kp.refl w') (show Vis (Value.agg #[Value.bool an, Value.slice A n c, Value.bool an', Value.slice A' n' c']) (Value.agg #[Value.bool an, Value.slice A n c, Value.bool an', Value.slice A' n' c']) w' from rfl) (fun _ _ _ h => absurd h (by decide)))
      · have E0 : Hid (f 0 = Value.agg #[Value.bool an, Value.slice A n c, Value.bool an', Value.slice A' n' c']) := Lib.hid (hn 0 (List.mem_of_elem_eq_true (by kernel_rfl)))
        refine wpOp_step rfl (fun K' hK' => ?_)
        have HK' := Lib.hid hK'
        clear hK'
        obtain ⟨-, hkp⟩ := hS
        go_simp
        refine (call_via (TN.out _ hkp) (by rw [E0.out])).mono ?_
        rintro e v1 ⟨A1, k1, c1, rfl, -, hW1, -, hb1⟩
        (try (go_wp2_with fail))
        exact HK'.out _ _ (hK _ v1 (HS.out _ (Kp.trans hkp hb1)) hb1 (show Vz z1 _ _ from ⟨A1, k1, c1, rfl, zk_of hW1 LEN1.out⟩) (fun _ _ _ h => absurd h (by decide)))
      · refine wpOp_step rfl (fun K' hK' => ?_)
        obtain ⟨⟨a0, a1, a2, a3, a4, a5, a6, a7⟩, hkp⟩ := hS
        go_simp
        exact hK' _ _ (hK _ w' (HS.out _ hkp) (Kp.refl w') (show Vis (Value.agg #[Value.bool bn, Value.slice B m d, Value.bool bn', Value.slice B' m' d']) (Value.agg #[Value.bool bn, Value.slice B m d, Value.bool bn', Value.slice B' m' d']) w' from rfl) (fun _ _ _ h => absurd h (by decide)))
      · have E2 : Hid (f 2 = Value.agg #[Value.bool bn, Value.slice B m d, Value.bool bn', Value.slice B' m' d']) := Lib.hid (hn 2 (List.mem_of_elem_eq_true (by kernel_rfl)))
        refine wpOp_step rfl (fun K' hK' => ?_)
        have HK' := Lib.hid hK'
        clear hK'
        obtain ⟨-, hkp⟩ := hS
        go_simp
        refine (call_via (TD2.out _ hkp) (by rw [E2.out])).mono ?_
        rintro e v1 ⟨A1, k1, c1, rfl, -, hW1, -, hb1⟩
        (try (go_wp2_with fail))
        exact HK'.out _ _ (hK _ v1 (HS.out _ (Kp.trans hkp hb1)) hb1 (show Vn v3 _ _ from ⟨A1, k1, c1, rfl, zk_ofN hW1 LEN3.out⟩) (fun _ _ _ h => absurd h (by decide)))
      · obtain ⟨A4, k4, c4, e4, hZ4⟩ := (show Vz z1 (f 1) w' from hn 1 (List.mem_of_elem_eq_true (by kernel_rfl)))
        obtain ⟨A5, k5, c5, e5, hZ5⟩ := (show Vn v3 (f 3) w' from hn 3 (List.mem_of_elem_eq_true (by kernel_rfl)))
        have E4 := Lib.hid e4
        have E5 := Lib.hid e5
        clear e4 e5
        refine wpOp_step rfl (fun K' hK' => ?_)
        have HK' := Lib.hid hK'
        clear hK'
        obtain ⟨-, hkp⟩ := hS
        go_simp
        refine (call_via (TM.out _ _ _ _ _ _ c4 _ c5 hZ4 hZ5) (by rw [E4.out, E5.out])).mono ?_
        rintro e v1 ⟨A1, k1, c1, rfl, -, hW1, -, hb1⟩
        (try (go_wp2_with fail))
        exact HK'.out _ _ (hK _ v1 (HS.out _ (Kp.trans hkp hb1)) hb1 (show Vz z4 _ _ from ⟨A1, k1, c1, rfl, zk_of hW1 LEN4.out⟩) (fun _ _ _ h => absurd h (by decide)))
      · refine wpOp_step rfl (fun K' hK' => ?_)
        obtain ⟨⟨a0, a1, a2, a3, a4, a5, a6, a7⟩, hkp⟩ := hS
        go_simp
        exact hK' _ _ (hK _ w' (HS.out _ hkp) (Kp.refl w') (show Vis (Value.agg #[Value.bool bn, Value.slice B m d, Value.bool bn', Value.slice B' m' d']) (Value.agg #[Value.bool bn, Value.slice B m d, Value.bool bn', Value.slice B' m' d']) w' from rfl) (fun _ _ _ h => absurd h (by decide)))
      · have E5 : Hid (f 5 = Value.agg #[Value.bool bn, Value.slice B m d, Value.bool bn', Value.slice B' m' d']) := Lib.hid (hn 5 (List.mem_of_elem_eq_true (by kernel_rfl)))
        refine wpOp_step rfl (fun K' hK' => ?_)
        have HK' := Lib.hid hK'
        clear hK'
        obtain ⟨-, hkp⟩ := hS
        go_simp
        refine (call_via (TN2.out _ hkp) (by rw [E5.out])).mono ?_
        rintro e v1 ⟨A1, k1, c1, rfl, -, hW1, -, hb1⟩
        (try (go_wp2_with fail))
        exact HK'.out _ _ (hK _ v1 (HS.out _ (Kp.trans hkp hb1)) hb1 (show Vz z6 _ _ from ⟨A1, k1, c1, rfl, zk_of hW1 LEN6.out⟩) (fun _ _ _ h => absurd h (by decide)))
      · refine wpOp_step rfl (fun K' hK' => ?_)
        obtain ⟨⟨a0, a1, a2, a3, a4, a5, a6, a7⟩, hkp⟩ := hS
        go_simp
        exact hK' _ _ (hK _ w' (HS.out _ hkp) (Kp.refl w') (show Vis (Value.agg #[Value.bool an, Value.slice A n c, Value.bool an', Value.slice A' n' c']) (Value.agg #[Value.bool an, Value.slice A n c, Value.bool an', Value.slice A' n' c']) w' from rfl) (fun _ _ _ h => absurd h (by decide)))
      · have E7 : Hid (f 7 = Value.agg #[Value.bool an, Value.slice A n c, Value.bool an', Value.slice A' n' c']) := Lib.hid (hn 7 (List.mem_of_elem_eq_true (by kernel_rfl)))
        refine wpOp_step rfl (fun K' hK' => ?_)
        have HK' := Lib.hid hK'
        clear hK'
        obtain ⟨-, hkp⟩ := hS
        go_simp
        refine (call_via (TD.out _ hkp) (by rw [E7.out])).mono ?_
        rintro e v1 ⟨A1, k1, c1, rfl, -, hW1, -, hb1⟩
        (try (go_wp2_with fail))
        exact HK'.out _ _ (hK _ v1 (HS.out _ (Kp.trans hkp hb1)) hb1 (show Vn v8 _ _ from ⟨A1, k1, c1, rfl, zk_ofN hW1 LEN8.out⟩) (fun _ _ _ h => absurd h (by decide)))
      · obtain ⟨A4, k4, c4, e4, hZ4⟩ := (show Vz z6 (f 6) w' from hn 6 (List.mem_of_elem_eq_true (by kernel_rfl)))
        obtain ⟨A5, k5, c5, e5, hZ5⟩ := (show Vn v8 (f 8) w' from hn 8 (List.mem_of_elem_eq_true (by kernel_rfl)))
        have E4 := Lib.hid e4
        have E5 := Lib.hid e5
        clear e4 e5
        refine wpOp_step rfl (fun K' hK' => ?_)
        have HK' := Lib.hid hK'
        clear hK'
        obtain ⟨-, hkp⟩ := hS
        go_simp
        refine (call_via (TM2.out _ _ _ _ _ _ c4 _ c5 hZ4 hZ5) (by rw [E4.out, E5.out])).mono ?_
        rintro e v1 ⟨A1, k1, c1, rfl, -, hW1, -, hb1⟩
        (try (go_wp2_with fail))
        exact HK'.out _ _ (hK _ v1 (HS.out _ (Kp.trans hkp hb1)) hb1 (show Vz z9 _ _ from ⟨A1, k1, c1, rfl, zk_of hW1 LEN9.out⟩) (fun _ _ _ h => absurd h (by decide)))
      · refine wpOp_step rfl (fun K' hK' => ?_)
        obtain ⟨-, hkp⟩ := hS
        go_simp
        have hb := kp_new (cur := w') (o := .cells #[.bool false, .slice none 0 0] 29) rfl
        exact hK' _ _ (hK _ _ (HS.out _ (Kp.trans hkp hb)) hb (show Vb W _ _ _ _ from ⟨_, rfl, Blk.new _ _ _, Below.size hkp⟩) (fun j u hu _ hj => by
          have hu' : Vb W 29 #[.bool false, .slice none 0 0] u w' := by rcases hj with rfl | rfl <;> exact hu
          obtain ⟨g, rfl, hg, -⟩ := hu'
          have := hg.lt
          intro h
          (try simp at h)
          (try omega)))
      · refine wpOp_step rfl (fun K' hK' => ?_)
        obtain ⟨-, hkp⟩ := hS
        go_simp
        have hb := kp_new (cur := w') (o := .cells #[.bool false, .slice none 0 0] 29) rfl
        exact hK' _ _ (hK _ _ (HS.out _ (Kp.trans hkp hb)) hb (show Vb W _ _ _ _ from ⟨_, rfl, Blk.new _ _ _, Below.size hkp⟩) (fun j u hu _ hj => by
          have hu' : Vb W 29 #[.bool false, .slice none 0 0] u w' := by rcases hj with rfl | rfl <;> exact hu
          obtain ⟨g, rfl, hg, -⟩ := hu'
          have := hg.lt
          intro h
          (try simp at h)
          (try omega)))
    case fin =>
      intro f w' hS hv hd
      obtain ⟨A4, k4, c4, e4, hZ4⟩ := (show Vz z4 (f 4) w' from hv 4 (by omega))
      obtain ⟨A9, k9, c9, e9, hZ9⟩ := (show Vz z9 (f 9) w' from hv 9 (by omega))
      obtain ⟨g5, e10, B10, hg10⟩ := (show Vb W _ _ (f 10) w' from hv 10 (by omega))
      obtain ⟨g6, e11, B11, hg11⟩ := (show Vb W _ _ (f 11) w' from hv 11 (by omega))
      have hne : g5 ≠ g6 := by
        rintro rfl
        rcases hd 10 11 (by omega) (by omega) (by omega) with h | h
        · exact h (.inl rfl) (.inr rfl) (e10.trans e11.symm)
        · exact h (.inr rfl) (.inl rfl) (e11.trans e10.symm)
      have hp := hS.2
      clear hS hv hd
      simp only [e4, e9, e10, e11]
      refine wpAny_ready (rs := [12]) (by kernel_rfl) (by simp) ?_
      refine AllReady.cons rfl (fun K hK => ?_) AllReady.nil
      (try simp only [List.getElem_toArray, List.getElem_cons_zero, List.getElem_cons_succ])
      obtain ⟨p0, p1, f0, f1⟩ := B10.two
      go_simp
      refine hK _ _ ?_
      clear hK K
      (try simp only [Act.put, List.getElem_toArray, List.getElem_cons_zero, List.getElem_cons_succ, List.setIfInBounds_toArray, List.set_cons_zero, List.set_cons_succ])
      generalize hv : World.setCell (World.setCell _ _ _) _ _ = v12
      have D10 := blk_st hv B10
      have D11 := blk_stf hv B11 hne
      have hp12 := kp_st hv hp hg10
      have hZ4 := zk_st hv B10 hZ4
      have hZ9 := zk_st hv B10 hZ9
      clear p0 p1 f0 f1 B10 B11 hp hv
      refine wpAny_ready (rs := [13]) (by kernel_rfl) (by simp) ?_
      refine AllReady.cons rfl (fun K hK => ?_) AllReady.nil
      (try simp only [List.getElem_toArray, List.getElem_cons_zero, List.getElem_cons_succ])
      obtain ⟨p0, p1, f0, f1⟩ := D11.two
      go_simp
      refine hK _ _ ?_
      clear hK K
      (try simp only [Act.put, List.getElem_toArray, List.getElem_cons_zero, List.getElem_cons_succ, List.setIfInBounds_toArray, List.set_cons_zero, List.set_cons_succ])
      generalize hv : World.setCell (World.setCell _ _ _) _ _ = v13
      have E11 := blk_st hv D11
      have E10 := blk_stf hv D10 hne.symm
      have hp13 := kp_st hv hp12 hg11
      have hZ4 := zk_st hv D11 hZ4
      have hZ9 := zk_st hv D11 hZ9
      refine wpAny_done (by kernel_rfl) ?_ _
      clear p0 p1 f0 f1 D10 D11 hv hp12
      have HF := Lib.hid (And.intro hp13 (And.intro E10 (And.intro hZ4 (And.intro E11 hZ9))))
      clear hp13 E10 hZ4 E11 hZ9
      (try go_wp2_with fail)
      go_meet
      exact ⟨_, _, _, _, _, _, _, _, rfl, rfl, HF⟩
  case rest =>
    obtain ⟨g5, g6, A4, k4, c4, A9, k9, c9, rfl, rfl, HV⟩ := hcut
    generalize wc = V at *
    have E10 := HV.out.2.1
    have E11 := HV.out.2.2.2.1
    have hC0 := Kp.blk HV.out.1 HB0.out
    have hC1 := Kp.blk HV.out.1 HB1.out
    have HS2 := Lib.hid (show ∀ w', Kp V w' → (w'.cell? ⟨g5, 0, none⟩ = some (.bool (decide (z4 < 0))) ∧ w'.cell? ⟨g5, 1, none⟩ = some (.slice A4 k4 c4) ∧ w'.cell? ⟨g6, 0, none⟩ = some (.bool (decide (z9 < 0))) ∧ w'.cell? ⟨g6, 1, none⟩ = some (.slice A9 k9 c9) ∧ w'.cell? ⟨w.heap.size, 0, none⟩ = some (.bool an) ∧ w'.cell? ⟨w.heap.size, 1, none⟩ = some (.slice A n c) ∧ w'.cell? ⟨w.heap.size, 2, none⟩ = some (.bool an') ∧ w'.cell? ⟨w.heap.size, 3, none⟩ = some (.slice A' n' c') ∧ w'.cell? ⟨w.heap.size + 1, 0, none⟩ = some (.bool bn) ∧ w'.cell? ⟨w.heap.size + 1, 1, none⟩ = some (.slice B m d) ∧ w'.cell? ⟨w.heap.size + 1, 2, none⟩ = some (.bool bn') ∧ w'.cell? ⟨w.heap.size + 1, 3, none⟩ = some (.slice B' m' d')) ∧ Kp V w' from fun w' hk => ⟨⟨(hk.blk E10).cell 0, (hk.blk E10).cell 1, (hk.blk E11).cell 0, (hk.blk E11).cell 1, (hk.blk hC0).cell 0, (hk.blk hC0).cell 1, (hk.blk hC0).cell 2, (hk.blk hC0).cell 3, (hk.blk hC1).cell 0, (hk.blk hC1).cell 1, (hk.blk hC1).cell 2, (hk.blk hC1).cell 3⟩, hk⟩)
    have HZ4 := Lib.hid HV.out.2.2.1
    have HZ9 := Lib.hid HV.out.2.2.2.2
    have HVW := Lib.hid HV.out.1
    have HG := Lib.hid (Nat.lt_of_lt_of_le HB2.out.lt (Below.size HV.out.1))
    have HR4 := Lib.hid ((RS4.start HB2.out).call HV.out.1)
    have hBW := HBW.out
    clear HS HV E10 E11 hC0 hC1 TN TN2 TM TM2
    go_upto_region 2 with fail
    refine wp_region_front 9 1 _ (fun w' => (w'.cell? ⟨g5, 0, none⟩ = some (.bool (decide (z4 < 0))) ∧ w'.cell? ⟨g5, 1, none⟩ = some (.slice A4 k4 c4) ∧ w'.cell? ⟨g6, 0, none⟩ = some (.bool (decide (z9 < 0))) ∧ w'.cell? ⟨g6, 1, none⟩ = some (.slice A9 k9 c9) ∧ w'.cell? ⟨w.heap.size, 0, none⟩ = some (.bool an) ∧ w'.cell? ⟨w.heap.size, 1, none⟩ = some (.slice A n c) ∧ w'.cell? ⟨w.heap.size, 2, none⟩ = some (.bool an') ∧ w'.cell? ⟨w.heap.size, 3, none⟩ = some (.slice A' n' c') ∧ w'.cell? ⟨w.heap.size + 1, 0, none⟩ = some (.bool bn) ∧ w'.cell? ⟨w.heap.size + 1, 1, none⟩ = some (.slice B m d) ∧ w'.cell? ⟨w.heap.size + 1, 2, none⟩ = some (.bool bn') ∧ w'.cell? ⟨w.heap.size + 1, 3, none⟩ = some (.slice B' m' d')) ∧ Kp V w') (by kernel_rfl) (by kernel_rfl) rfl (HS2.out _ (Kp.drew (Kp.refl V))) (fun hHeld => ?_)
    simp only [List.toList_toArray, List.take_succ_cons, List.take_zero]
    refine wpAnyH_take (i := 0) (v := ?v1) rfl (by kernel_rfl) (by kernel_rfl) (by kernel_rfl) (fun _ _ _ h => h) (Or.inl ⟨by rfl, ?y1⟩) (by assumption) ?r1
    case y1 => (intro w hSw; (try dsimp only at hSw); (try simp only [List.getElem_toArray, List.getElem_cons_zero, List.getElem_cons_succ]); go_simp; first | done | with_reducible rfl)
    (try simp only [Act.put, List.getElem_toArray, List.getElem_cons_zero, List.getElem_cons_succ, List.setIfInBounds_toArray, List.set_cons_zero, List.set_cons_succ])
    refine wpAnyH_take (i := 1) (v := ?v2) rfl (by kernel_rfl) (by kernel_rfl) (by kernel_rfl) (fun _ _ _ h => h) (Or.inl ⟨by rfl, ?y2⟩) (by assumption) ?r2
    case y2 => (intro w hSw; (try dsimp only at hSw); (try simp only [List.getElem_toArray, List.getElem_cons_zero, List.getElem_cons_succ]); go_simp; first | done | with_reducible rfl)
    (try simp only [Act.put, List.getElem_toArray, List.getElem_cons_zero, List.getElem_cons_succ, List.setIfInBounds_toArray, List.set_cons_zero, List.set_cons_succ])
    refine wpAnyH_take (i := 3) (v := ?v4) rfl (by kernel_rfl) (by kernel_rfl) (by kernel_rfl) (fun _ _ _ h => h) (Or.inl ⟨by rfl, ?y4⟩) (by assumption) ?r4
    case y4 => (intro w hSw; (try dsimp only at hSw); (try simp only [List.getElem_toArray, List.getElem_cons_zero, List.getElem_cons_succ]); go_simp; first | done | with_reducible rfl)
    (try simp only [Act.put, List.getElem_toArray, List.getElem_cons_zero, List.getElem_cons_succ, List.setIfInBounds_toArray, List.set_cons_zero, List.set_cons_succ])
    refine wpAnyH_take (i := 5) (v := ?v6) rfl (by kernel_rfl) (by kernel_rfl) (by kernel_rfl) (fun _ _ _ h => h) (Or.inl ⟨by rfl, ?y6⟩) (by assumption) ?r6
    case y6 => (intro w hSw; (try dsimp only at hSw); (try simp only [List.getElem_toArray, List.getElem_cons_zero, List.getElem_cons_succ]); go_simp; first | done | with_reducible rfl)
    (try simp only [Act.put, List.getElem_toArray, List.getElem_cons_zero, List.getElem_cons_succ, List.setIfInBounds_toArray, List.set_cons_zero, List.set_cons_succ])
    refine wpAnyH_ready (rs := [2]) (by kernel_rfl) (by simp) ?_
    refine AllReadyH.cons rfl (fun K hK => ?_) ?_
    · (try simp only [List.getElem_toArray, List.getElem_cons_zero, List.getElem_cons_succ])
      go_simp
      have hk := And.right ‹_ ∧ Kp V _›
      refine (TA.out _ _ _ _ _ _ _ _ _ (HZ4.out.below hk) (HZ9.out.below hk)).mono ?_
      rintro e v22 ⟨A22, k22, c22, rfl, hk22, hW22, hF22, hb22⟩
      have hZ22 := zk_of hW22 (LEN22.out)
      have hp := Kp.trans hk hb22
      (try have hZ1 := hZ1.below hb22)
      (try have hZ3 := hZ3.below hb22)
      (try have hZ4 := hZ4.below hb22)
      (try have hZ6 := hZ6.below hb22)
      (try have hZ8 := hZ8.below hb22)
      (try have hZ9 := hZ9.below hb22)
      (try have hZ24 := hZ24.below hb22)
      (try have hZ26 := hZ26.below hb22)
      (try have hZ27 := hZ27.below hb22)
      (try have B10 := Kp.blk hb22 B10)
      (try have B11 := Kp.blk hb22 B11)
      clear hk hb22 hW22 hF22 hk22
      (try (go_wp2_with fail))
      refine hK.out _ _ ?k8 (fun hHeld8 => ?n8)
      case k8 => ((try dsimp only); first | (with_reducible refine HS2.out _ ?_; with_reducible assumption) | (with_reducible refine HS2.out _ (Kp.drew ?_); with_reducible assumption) | (with_reducible refine' HS2.out _ (Kp.drew (And.right ?_)); rotate_left; with_reducible assumption))
      clear hK K
      (try simp only [Act.put, List.getElem_toArray, List.getElem_cons_zero, List.getElem_cons_succ, List.setIfInBounds_toArray, List.set_cons_zero, List.set_cons_succ])
      refine wpAnyH_ready (rs := [4]) (by kernel_rfl) (by simp) ?_
      refine AllReadyH.cons rfl (fun K hK => ?_) ?_
      · (try simp only [List.getElem_toArray, List.getElem_cons_zero, List.getElem_cons_succ])
        go_simp
        have hk := And.right ‹_ ∧ Kp V _›
        refine (TD.out _ (Kp.trans HVW.out hk)).mono ?_
        rintro e v24 ⟨A24, k24, c24, rfl, hk24, hW24, hF24, hb24⟩
        have hZ24 := zk_ofN hW24 (LEN24.out)
        have hp := Kp.trans hk hb24
        (try have hZ1 := hZ1.below hb24)
        (try have hZ3 := hZ3.below hb24)
        (try have hZ4 := hZ4.below hb24)
        (try have hZ6 := hZ6.below hb24)
        (try have hZ8 := hZ8.below hb24)
        (try have hZ9 := hZ9.below hb24)
        (try have hZ22 := hZ22.below hb24)
        (try have hZ26 := hZ26.below hb24)
        (try have hZ27 := hZ27.below hb24)
        (try have B10 := Kp.blk hb24 B10)
        (try have B11 := Kp.blk hb24 B11)
        clear hk hb24 hW24 hF24 hk24
        (try (go_wp2_with fail))
        refine hK.out _ _ ?k10 (fun hHeld10 => ?n10)
        case k10 => ((try dsimp only); first | (with_reducible refine HS2.out _ ?_; with_reducible assumption) | (with_reducible refine HS2.out _ (Kp.drew ?_); with_reducible assumption) | (with_reducible refine' HS2.out _ (Kp.drew (And.right ?_)); rotate_left; with_reducible assumption))
        clear hK K
        (try simp only [Act.put, List.getElem_toArray, List.getElem_cons_zero, List.getElem_cons_succ, List.setIfInBounds_toArray, List.set_cons_zero, List.set_cons_succ])
        refine wpAnyH_ready (rs := [6]) (by kernel_rfl) (by simp) ?_
        refine AllReadyH.cons rfl (fun K hK => ?_) ?_
        · (try simp only [List.getElem_toArray, List.getElem_cons_zero, List.getElem_cons_succ])
          go_simp
          have hk := And.right ‹_ ∧ Kp V _›
          refine (TD2.out _ (Kp.trans HVW.out hk)).mono ?_
          rintro e v26 ⟨A26, k26, c26, rfl, hk26, hW26, hF26, hb26⟩
          have hZ26 := zk_ofN hW26 (LEN26.out)
          have hp := Kp.trans hk hb26
          (try have hZ1 := hZ1.below hb26)
          (try have hZ3 := hZ3.below hb26)
          (try have hZ4 := hZ4.below hb26)
          (try have hZ6 := hZ6.below hb26)
          (try have hZ8 := hZ8.below hb26)
          (try have hZ9 := hZ9.below hb26)
          (try have hZ22 := hZ22.below hb26)
          (try have hZ24 := hZ24.below hb26)
          (try have hZ27 := hZ27.below hb26)
          (try have B10 := Kp.blk hb26 B10)
          (try have B11 := Kp.blk hb26 B11)
          clear hk hb26 hW26 hF26 hk26
          (try (go_wp2_with fail))
          refine hK.out _ _ ?k12 (fun hHeld12 => ?n12)
          case k12 => ((try dsimp only); first | (with_reducible refine HS2.out _ ?_; with_reducible assumption) | (with_reducible refine HS2.out _ (Kp.drew ?_); with_reducible assumption) | (with_reducible refine' HS2.out _ (Kp.drew (And.right ?_)); rotate_left; with_reducible assumption))
          clear hK K
          (try simp only [Act.put, List.getElem_toArray, List.getElem_cons_zero, List.getElem_cons_succ, List.setIfInBounds_toArray, List.set_cons_zero, List.set_cons_succ])
          refine wpAnyH_ready (rs := [7]) (by kernel_rfl) (by simp) ?_
          refine AllReadyH.cons rfl (fun K hK => ?_) ?_
          · (try simp only [List.getElem_toArray, List.getElem_cons_zero, List.getElem_cons_succ])
            go_simp
            have hk := And.right ‹_ ∧ Kp V _›
            refine (TM3.out _ _ _ _ _ _ _ hZ24 hZ26).mono ?_
            rintro e v27 ⟨A27, k27, c27, rfl, hk27, hW27, hF27, hb27⟩
            have hZ27 := zk_ofN hW27 (LEN27.out)
            have hp := Kp.trans hk hb27
            (try have hZ1 := hZ1.below hb27)
            (try have hZ3 := hZ3.below hb27)
            (try have hZ4 := hZ4.below hb27)
            (try have hZ6 := hZ6.below hb27)
            (try have hZ8 := hZ8.below hb27)
            (try have hZ9 := hZ9.below hb27)
            (try have hZ22 := hZ22.below hb27)
            (try have hZ24 := hZ24.below hb27)
            (try have hZ26 := hZ26.below hb27)
            (try have B10 := Kp.blk hb27 B10)
            (try have B11 := Kp.blk hb27 B11)
            clear hk hb27 hW27 hF27 hk27
            (try (go_wp2_with fail))
            refine hK.out _ _ ?k14 (fun hHeld14 => ?n14)
            case k14 => ((try dsimp only); first | (with_reducible refine HS2.out _ ?_; with_reducible assumption) | (with_reducible refine HS2.out _ (Kp.drew ?_); with_reducible assumption) | (with_reducible refine' HS2.out _ (Kp.drew (And.right ?_)); rotate_left; with_reducible assumption))
            clear hK K
            (try simp only [Act.put, List.getElem_toArray, List.getElem_cons_zero, List.getElem_cons_succ, List.setIfInBounds_toArray, List.set_cons_zero, List.set_cons_succ])
            refine wpAnyH_ready (rs := [8]) (by kernel_rfl) (by simp) ?_
            refine AllReadyH.cons rfl (fun K hK => ?_) ?_
            · (try simp only [List.getElem_toArray, List.getElem_cons_zero, List.getElem_cons_succ])
              go_simp
              have hk := And.right ‹_ ∧ Kp V _›
              refine (TO.out _ _ _ _ _ _ _ _ hZ22 hZ27).mono ?_
              rintro e v28 ⟨A28, k28, c28, A29, k29, c29, rfl, hk28, hk29, hW28, hW29, hF28, hF29, hb28⟩
              have hp := Kp.trans hk hb28
              have hl9 := Nat.lt_of_lt_of_le HG.out (Below.size hk)
              clear hk hb28 hZ22 hZ27
              (try (go_wp2_with fail))
              refine hK.out _ _ ?k16 (fun hHeld16 => ?n16)
              case k16 => ((try dsimp only); first | (with_reducible refine HS2.out _ ?_; with_reducible assumption) | (with_reducible refine HS2.out _ (Kp.drew ?_); with_reducible assumption) | (with_reducible refine' HS2.out _ (Kp.drew (And.right ?_)); rotate_left; with_reducible assumption))
              clear hK K
              (try simp only [Act.put, List.getElem_toArray, List.getElem_cons_zero, List.getElem_cons_succ, List.setIfInBounds_toArray, List.set_cons_zero, List.set_cons_succ])
              refine wpAnyH_done (by kernel_rfl) ?_ _
              unfold Qfr
              dsimp only
              have hr9 : RS4 (w.heap.size + 1 + 1) 31 W v28 := RS4.call HR4.out hp
              obtain ⟨_, _, _, _, f0, f1, f2, f3, f4, f5, f6, f7⟩ := hr9.four
              refine wpAny_ready (rs := [9]) (by kernel_rfl) (by simp) ?_
              refine AllReady.cons rfl (fun K hK => ?_) AllReady.nil
              (try simp only [List.getElem_toArray, List.getElem_cons_zero, List.getElem_cons_succ])
              go_simp
              refine hK _ _ ?_
              clear hK K
              (try simp only [Act.put, List.getElem_toArray, List.getElem_cons_zero, List.getElem_cons_succ, List.setIfInBounds_toArray, List.set_cons_zero, List.set_cons_succ])
              refine wpAny_done (by kernel_rfl) ?_ _
              have hfin := retQ_close hBW (by omega) (by have := HSZ.out; have h9 := hl9; have h8 := HG.out; omega) hr9 hk28 hk29 hW28 hW29 hF28 hF29
              obtain ⟨d0, d1, d2, d3, -, -, -, -⟩ := (hr9.done (.bool (decide ((y).num < 0))) (.slice A28 k28 c28) (.bool false) (.slice A29 k29 c29)).four
              have HF := Lib.hid hfin
              clear hfin hl9 hr9 TD TD2 TA TM3 TO
              go_wp2
              refine bodyPost_ret (v := .agg #[.bool (decide ((y).num < 0)), .slice A28 k28 c28, .bool false, .slice A29 k29 c29]) ?_ rfl HF.out
              simp [results, Tryz.results49, go_sem, d0, d1, d2, d3]
            exact AllReadyH.nil
          exact AllReadyH.nil
        exact AllReadyH.nil
      exact AllReadyH.nil
    exact AllReadyH.nil

end Go.Proofs.YtodkhjihkkmplaaGreat
