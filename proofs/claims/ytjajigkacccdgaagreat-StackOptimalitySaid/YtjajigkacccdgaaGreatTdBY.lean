/-
A rational among the arguments of a statement. Rows of rationals among the arguments of a statement. Long of layer 23 on rows of any length. Tools for StackOptimality: Share and Cost of a stack at a rational that lies canonical; its plain law in sums. A region that draws its order and ends in operations that wait for all others (stores): its front may be walked by itself, with the ends behind it. No statement of the seat is proved here; no conditions beyond those of each theorem.
-/
import Derived.Test.YtjajigkacccdgaaGreatTdBX
import Derived.Test.YtjajigkacccdgaaGreatTdBO
import Derived.Test.YtjajigkacccdgaaGreatTdBV
import Derived.Test.YtjajigkacccdgaaGreatTdBW
import Derived.Test.YtjajigkacccdgaaGreatTdBM
import Derived.Test.YtjajigkacccdgaaGreatTdAA
import Derived.OrdersHeld
import Derived.Deep.RegionHeld3
namespace Go.Proofs.YtjajigkacccdgaaGreat
set_option linter.unusedVariables false
set_option linter.unusedSimpArgs false
open Go.ChangeShapes Go.WideShapes Go.ChangeAt Go.RowKit Go.Deep
open Wd

theorem cells_u32 : Tryz.prog.cellsOf 59 = 1 := by kernel_rfl
theorem cells_u32s : Tryz.prog.cellsOf 38 = 1 := by kernel_rfl
theorem cells_boolq : Tryz.prog.cellsOf 4 = 1 := by kernel_rfl
theorem cells_z : Tryz.prog.cellsOf 40 = 2 := by kernel_rfl
theorem cells_q : Tryz.prog.cellsOf 42 = 4 := by kernel_rfl
theorem u32_of {z : Int} (h : (Lit.int .u32 z).wf = true) : ∃ i : Nat, z = (i : Int) ∧ i < 4294967296 := by
 simp [Lit.wf, IntKind.min, IntKind.max, IntKind.signed, IntKind.bits] at h
 exact ⟨z.toNat, by omega, by omega⟩

section
variable {H : Type} {enc : TypeId × Value → H} {W : World}
theorem ws_of {fuel : Nat} {cs : List Value} {x : DataW H × List MemPlace} (h : DataW.trod enc Tryz.prog W 0 (fun _ => true) true fuel 38 cs = some x) : ∃ A n c l, cs = [.slice A n c] ∧ Wat W A n l ∧ n ≤ c := by
 rcases open_slice1 Tryz.underlying38 cells_u32 h with ⟨rfl, _⟩ | ⟨a, len, cap, m, n, V, D, Pl, rfl, hlc, hl, _, hmm, _, hi⟩
 ·exact ⟨none, 0, 0, [], rfl, Wat.nil, Nat.le_refl _⟩
 ·simp only [if_true] at hmm
  have each : ∀ i, i < len → ∃ z : Nat, W.cell? (a.add i) = some (.int .u32 (z : Int)) ∧ z < 4294967296 := by
   intro i hil
   obtain ⟨hc, ht⟩ := hi i (by omega)
   obtain ⟨z, hz, _, hw⟩ := DataW.trod_int Tryz.underlying59 ht
   obtain ⟨i', rfl, hi'⟩ := u32_of hw
   exact ⟨i', by rw [hc]; simpa using hz, hi'⟩
  obtain ⟨F, hF⟩ := choose_lt each
  refine ⟨some a, len, cap, (List.range len).map F, rfl, ⟨by simp, ?_, fun hn => ?_⟩, ?_⟩
  ·intro z hz
   obtain ⟨i, hi', rfl⟩ := List.mem_map.1 hz
   exact (hF i (List.mem_range.1 hi')).2
  ·obtain ⟨e, hb⟩ := plain_addr (hF 0 (by omega)).1
   have hsp : a.spot = none := by have := congrArg Addr.spot e; simpa [Addr.add] using this
   have ea : a = ⟨a.block, a.off, none⟩ := by obtain ⟨b, o, s⟩ := a; simp only at hsp ⊢; rw [hsp]
   refine ⟨a.block, a.off, by rw [← ea], by simpa [Addr.add] using hb, fun j hj => ?_⟩
   have e1 : ((List.range len).map F)[j]?.getD 0 = F j := by simp [hj]
   have c1 := (hF j hj).1
   rw [ea, addr_plus] at c1
   rw [e1]
   exact c1
  ·omega
set_option maxRecDepth 100000 in
set_option maxHeartbeats 2000000 in
theorem z_of {fuel : Nat} {cs : List Value} {x : DataW H × List MemPlace} (hcl : cs.length = 2) (h : DataW.trod enc Tryz.prog W 0 (fun _ => true) true fuel 40 cs = some x) : ∃ an A n c l, cs = [.bool an, .slice A n c] ∧ Wat W A n l ∧ n ≤ c := by
 obtain ⟨xs, k, _, _, _, hxl, hg⟩ := DataW.trod_struct Tryz.underlying40 h
 have hxl2 : xs.length = 2 := hxl
 have h0 : DataW.trod enc Tryz.prog W 0 (fun _ => true) true k 4 ((cs.drop 0).take (Tryz.prog.cellsOf 4)) = xs[0]? := hg 0 _ rfl
 have h1 : DataW.trod enc Tryz.prog W 0 (fun _ => true) true k 38 ((cs.drop 1).take (Tryz.prog.cellsOf 38)) = xs[1]? := hg 1 _ rfl
 rw [cells_boolq, List.getElem?_eq_getElem (by omega)] at h0
 rw [cells_u32s, List.getElem?_eq_getElem (by omega)] at h1
 obtain ⟨an, e0, _⟩ := DataW.trod_bool Tryz.underlying4 h0
 obtain ⟨A, n, c, l, e1, hw, hc⟩ := ws_of h1
 have d0 := drop_one e0
 have d1 := drop_one e1
 refine ⟨an, A, n, c, l, ?_, hw, hc⟩
 match cs, hcl with
 | [a, b], _ =>
  simp at d0 d1
  rw [d0, d1]
end
end Go.Proofs.YtjajigkacccdgaaGreat
namespace Go.Proofs.YtjajigkacccdgaaGreat
set_option linter.unusedVariables false
set_option linter.unusedSimpArgs false
open Go.ChangeShapes Go.WideShapes Go.ChangeAt Go.RowKit Go.Deep
open Wd
section
variable {H : Type} {enc : TypeId × Value → H} {W : World}
def QWs (W : World) (e : QE) : Prop := ∃ l l', Wat W e.2.1.1 e.2.1.2.1 l ∧ Wat W e.2.2.2.1 e.2.2.2.2.1 l' ∧ e.2.1.2.1 ≤ e.2.1.2.2 ∧ e.2.2.2.2.1 ≤ e.2.2.2.2.2
def GRaw (W : World) (A : Option Addr) (m : Nat) (es : List QE) : Prop := QsAtR W A m es ∧ (∀ j, j < m → QWs W (es[j]?.getD QE0)) ∧ m ≤ maxLen
set_option maxRecDepth 100000 in
set_option maxHeartbeats 2000000 in
theorem qs_of {fuel : Nat} {cs : List Value} {x : DataW H × List MemPlace} (h : DataW.trod enc Tryz.prog W 0 (fun _ => true) true fuel 46 cs = some x) : ∃ A n c es, cs = [.slice A n c] ∧ GRaw W A n es := by
 rcases open_slice Tryz.underlying46 h with ⟨rfl, _⟩ | ⟨a, len, cap, m, n, D, Pl, rfl, _, hl, hcm, hmm, _, hi⟩
 ·exact ⟨none, 0, 0, [], rfl, ⟨rfl, fun h => absurd rfl h⟩, fun j hj => absurd hj (by omega), Nat.zero_le _⟩
 ·simp only [if_true] at hmm
  have each : ∀ i, i < len → ∃ e : QE, (W.cell? (a.add (i * 4)) = some (.bool e.1) ∧ W.cell? (a.add (i * 4 + 1)) = some (.slice e.2.1.1 e.2.1.2.1 e.2.1.2.2) ∧ W.cell? (a.add (i * 4 + 2)) = some (.bool e.2.2.1) ∧ W.cell? (a.add (i * 4 + 3)) = some (.slice e.2.2.2.1 e.2.2.2.2.1 e.2.2.2.2.2)) ∧ QWs W e := by
   intro i hil
   obtain ⟨cs', hc, ht⟩ := hi i (by omega)
   rw [cells_q] at hc
   obtain ⟨xs, k, _, _, _, hxl, hg⟩ := DataW.trod_struct Tryz.underlying42 ht
   have hxl2 : xs.length = 2 := hxl
   obtain ⟨_, hcl, hcell⟩ := World.cells?_some hc
   have h0 : DataW.trod enc Tryz.prog W 0 (fun _ => true) true k 40 ((cs'.drop 0).take (Tryz.prog.cellsOf 40)) = xs[0]? := hg 0 _ rfl
   have h1 : DataW.trod enc Tryz.prog W 0 (fun _ => true) true k 40 ((cs'.drop 2).take (Tryz.prog.cellsOf 40)) = xs[1]? := hg 1 _ rfl
   rw [cells_z, List.getElem?_eq_getElem (by omega)] at h0 h1
   obtain ⟨an, A, n, c, l, e0, w0, b0⟩ := z_of (by simp; omega) h0
   obtain ⟨an', A', n', c', l', e1, w1, b1⟩ := z_of (by simp; omega) h1
   refine ⟨(an, (A, n, c), an', (A', n', c')), ?_, l, l', w0, w1, b0, b1⟩
   have r0 := hcell 0 (by omega)
   have r1 := hcell 1 (by omega)
   have r2 := hcell 2 (by omega)
   have r3 := hcell 3 (by omega)
   match cs', hcl with
   | [p0, p1, p2, p3], _ =>
    simp at e0 e1
    obtain ⟨rfl, rfl⟩ := e0
    obtain ⟨rfl, rfl⟩ := e1
    exact ⟨r0, by rw [← add_add]; exact r1, by rw [← add_add]; exact r2, by rw [← add_add]; exact r3⟩
  obtain ⟨F, hF⟩ := choose_lt each
  have e1 : ∀ j, j < len → ((List.range len).map F)[j]?.getD QE0 = F j := fun j hj => by simp [hj]
  refine ⟨some a, len, cap, (List.range len).map F, rfl, ⟨by simp, fun hn => ?_⟩, fun j hj => by rw [e1 j hj]; exact (hF j hj).2, Nat.le_trans hl hcm⟩
  obtain ⟨⟨h0, _⟩, _⟩ := hF 0 (by omega)
  obtain ⟨e, hb⟩ := plain_addr h0
  have hsp : a.spot = none := by have := congrArg Addr.spot e; simpa [Addr.add] using this
  have ea : a = ⟨a.block, a.off, none⟩ := by obtain ⟨b, o, s⟩ := a; simp only at hsp ⊢; rw [hsp]
  refine ⟨a.block, a.off, by rw [← ea], by simpa [Addr.add] using hb, fun j hj => ?_⟩
  obtain ⟨⟨c0, c1, c2, c3⟩, hs⟩ := hF j hj
  rw [ea, addr_plus] at c0 c1 c2 c3
  rw [e1 j hj]
  exact ⟨c0, c1, c2, c3⟩
end
theorem GRaw.qs {W : World} {A : Option Addr} {m : Nat} {es : List QE} (h : GRaw W A m es) (hb : es.any bigQ = false) : ∃ qs, QsS 7 W A m qs := by
 have each : ∀ j, j < m → ∃ q, QS 7 W (es[j]?.getD QE0).1 (es[j]?.getD QE0).2.1.1 (es[j]?.getD QE0).2.1.2.1 (es[j]?.getD QE0).2.1.2.2 (es[j]?.getD QE0).2.2.1 (es[j]?.getD QE0).2.2.2.1 (es[j]?.getD QE0).2.2.2.2.1 (es[j]?.getD QE0).2.2.2.2.2 q := fun j hj => by
  obtain ⟨l, l', w1, w2, c1, c2⟩ := h.2.1 j hj
  have hbj : bigQ (es[j]?.getD QE0) = false := by
   rw [List.any_eq_false] at hb
   have := hb _ (getD_mem (d := QE0) (by rw [h.1.1]; exact hj))
   simpa using this
  unfold bigQ at hbj
  simp only [Bool.or_eq_false_iff, decide_eq_false_iff_not] at hbj
  exact qk_raw w1 w2 c1 c2 (by omega) (by omega)
 obtain ⟨F, hF⟩ := choose_lt each
 refine ⟨(List.range m).map F, by simp, fun hn => ?_⟩
 obtain ⟨b, o, e, hlt, hc⟩ := h.1.2 hn
 refine ⟨b, o, e, hlt, fun j hj => ?_⟩
 have e1 : ((List.range m).map F)[j]?.getD 0 = F j := by simp [hj]
 rw [e1]
 obtain ⟨c0, c1, c2, c3⟩ := hc j hj
 exact ⟨_, _, _, _, _, _, _, _, c0, c1, c2, c3, hF j hj⟩

end Go.Proofs.YtjajigkacccdgaaGreat

namespace Go.Proofs.YtjajigkacccdgaaGreat
set_option linter.unusedVariables false
set_option linter.unusedSimpArgs false
open Go.RowKit
open Wd

set_option maxRecDepth 100000 in
set_option maxHeartbeats 4000000 in
theorem long23_big (A : Option Addr) (m c : Nat) (es : List QE) (w : World) (h : QsAtR w A m es) (hm : m ≤ maxLen) :
  Calls Tryz.prog 23 #[.slice A m c] w fun e w' => e = .returned (.bool (es.any bigQ)) ∧ Below w.heap.size w w' := by
 have HX := Lib.hid h
 have HLN := Lib.hid h.1
 have HMX := Lib.hid hm
 clear h hm
 go_enter Tryz.func23, Tryz.ntmps23
 go_wp2_with fail
 go_loopw [3] (fun t wr => ∃ k : Nat, k ≤ m ∧ t = .int .i64 k ∧ Hid (Below w.heap.size w wr ∧ (es.take k).any bigQ = false)) (fun t _ => m - (intOf t).toNat)
 case atStart => exact ⟨0, Nat.zero_le _, rfl, Below.refl _ _, by simp⟩
 case round =>
  obtain ⟨k, hk, rfl, hR⟩ := hrel
  by_cases hlt : k < m
  ·obtain ⟨b, o, rfl, hb, hc⟩ := HX.out.2 (by omega)
   obtain ⟨-, y1, -, y3⟩ := hc k hlt
   have hkl : k < es.length := by rw [HLN.out]; exact hlt
   have htk : es.take (k + 1) = es.take k ++ [es[k]?.getD QE0] := by rw [List.take_add_one, List.getElem?_eq_getElem hkl]; rfl
   have hany : (es.take (k + 1)).any bigQ = bigQ (es[k]?.getD QE0) := by rw [htk, List.any_append, hR.out.2]; simp
   have hmm : bigQ (es[k]?.getD QE0) = true → es.any bigQ = true := fun hx => List.any_eq_true.2 ⟨_, getD_mem hkl, hx⟩
   unfold bigQ at hany hmm
   generalize (es[k]?.getD QE0).2.1.1 = a1 at *
   generalize (es[k]?.getD QE0).2.1.2.1 = n1 at *
   generalize (es[k]?.getD QE0).2.1.2.2 = c1 at *
   generalize (es[k]?.getD QE0).2.2.2.1 = a2 at *
   generalize (es[k]?.getD QE0).2.2.2.2.1 = n2 at *
   generalize (es[k]?.getD QE0).2.2.2.2.2 = c2 at *
   replace y1 := (hR.out.1.cell (p := ⟨b, o + k * 4 + 1, none⟩) hb).trans y1
   replace y3 := (hR.out.1.cell (p := ⟨b, o + k * 4 + 3, none⟩) hb).trans y3
   have k1 : (0 : Int) ≤ (k : Int) := by omega
   have k2 : (k : Int) < (m : Int) := by omega
   have i1 : IntKind.i64.wrap ((k : Int) + 1) = ((k + 1 : Nat) : Int) := by
    have := HMX.out
    unfold maxLen at this
    exact IntWalk.i64_in _ (by omega)
   have HB := Lib.hid hR.out.1
   have HA := Lib.hid hany
   have HM := Lib.hid hmm
   clear hR hc hkl htk hany hmm
   by_cases h1 : 6 < n1
   ·have d1 : decide ((6 : Int) < (n1 : Int)) = true := by simp; omega
    have HT := Lib.hid (HM.out (by simp [h1]))
    go_wp2
    go_ret
    exact ⟨by have := HT.out; unfold bigQ; rw [this]; rfl, HB.out⟩
   ·have d1 : decide ((6 : Int) < (n1 : Int)) = false := by simp; omega
    by_cases h2 : 6 < n2
    ·have d2 : decide ((6 : Int) < (n2 : Int)) = true := by simp; omega
     have HT := Lib.hid (HM.out (by simp [h2]))
     go_wp2
     go_ret
     exact ⟨by have := HT.out; unfold bigQ; rw [this]; rfl, HB.out⟩
    ·have d2 : decide ((6 : Int) < (n2 : Int)) = false := by simp; omega
     have HF : Hid ((es.take (k + 1)).any bigQ = false) := by
      show _ = _
      have := HA.out
      unfold bigQ
      rw [this]
      simp [h1, h2]
     go_wp2
     go_roundw
     case rel => exact ⟨k + 1, by omega, by first | rfl | go_num, HB.out, HF.out⟩
     case measure => simp [intOf]; omega
  ·obtain rfl : k = m := by omega
   have HT : Hid (es.any bigQ = false) := by
    show _ = _
    have := hR.out.2
    rwa [List.take_of_length_le (by rw [HLN.out]; omega)] at this
   have HB := Lib.hid hR.out.1
   clear hR
   go_wp2
   go_ret
   exact ⟨by rw [HT.out]; rfl, HB.out⟩


end Go.Proofs.YtjajigkacccdgaaGreat

namespace Go.Proofs.YtjajigkacccdgaaGreat
set_option linter.unusedVariables false
set_option linter.unusedSimpArgs false
open Go.RowKit
open Wd

theorem sz_drewS (w : World) : w.drew.heap.size = w.heap.size := rfl
theorem blk_hereS {V X : World} (h : Kp V X) (t : TypeId) (cs : Array Value) : Blk (X.alloc (.cells cs t)) X.heap.size t cs := Blk.new X t cs
theorem QRow.qss {s : Nat} {w : World} {g n : Nat} {ps : List Rat} (h : QRow w g n ps) (hl : ∀ j, j < n → Ls s (ps[j]?.getD 0)) (hs : s ≤ 10000000000) : QsS s w (some ⟨g, 0, none⟩) n ps := by
 obtain ⟨h1, cs, hb, h3, h4, h5⟩ := h
 refine ⟨h1, fun _ => ⟨g, 0, rfl, hb.lt, fun j hj => ?_⟩⟩
 obtain ⟨A, k, c, A', k', c', e1, e2, e3, e4, e5, e6, e7, e8⟩ := h5 j hj
 refine ⟨_, A, k, c, false, A', k', c', ?_, ?_, ?_, ?_, RQ.qs (show RQ w _ A k c A' k' c' from ⟨e5, e6, e7, e8⟩) (hl j hj) hs⟩
 ·rw [Nat.zero_add]; exact (hb.cell _).trans e1
 ·rw [Nat.zero_add]; exact (hb.cell _).trans e2
 ·rw [Nat.zero_add]; exact (hb.cell _).trans e3
 ·rw [Nat.zero_add]; exact (hb.cell _).trans e4
theorem share_x {s : Nat} (hs : 3 ≤ s) (hs2 : s ≤ 100000) (up : Bool) (A : Option Addr) (m n c : Nat) (lv : List St.Lv) (q : Rat) (aA aA' : Option Addr) (ak ac ak' ac' : Nat) (w : World) (h : LvAt w A m n lv) (hv : VL up n lv) (hq : RQ w q aA ak ac aA' ak' ac') (hl : Ls s q) (h0 : 0 ≤ q) (h1 : q ≤ ((totI lv : Int) : Rat)) (hm : m = 0 → n = 0) :
  Calls Tryz.prog 31 #[.slice A m c, .agg #[.bool (decide (q.num < 0)), .slice aA ak ac, .bool false, .slice aA' ak' ac']] w fun e w' => ∃ X xc, e = .returned (.tuple #[.slice X n xc, .int .i64 0]) ∧ QsS (48 * (s + 1) + 1) w' X n (qAll lv n q m) ∧ Below w.heap.size w w' := by
 have hlen := h.1
 by_cases hm0 : m = 0
 ·have hn := hm hm0
  subst hm0
  subst hn
  have e : lv = [] := List.eq_nil_of_length_eq_zero hlen
  subst e
  have hz : q = 0 := by
   have : ((totI [] : Int) : Rat) = 0 := rfl
   grind
  subst hz
  refine (share_nil up A 0 c aA aA' ak ac ak' ac' w (by decide) hq).mono ?_
  rintro e w' ⟨rfl, hb⟩
  exact ⟨none, 0, rfl, ⟨by simp [qAll], fun h => absurd rfl h⟩, hb⟩
 ·refine (share_q hs hs2 up A m n c lv q _ false aA aA' ak ac ak' ac' w h hv (hq.qs hl (by omega)) h0 h1 hm0).mono ?_
  rintro e w' ⟨g, rfl, hr, hg, hb⟩
  refine ⟨some ⟨g, 0, none⟩, n, rfl, hr.qss (fun j hj => ?_) (by omega), hb⟩
  exact (qAll_ls hs hv (partAt_ls hs hv h0 hl) (by omega) hj).mono (by have := Nat.mul_le_mul_right (s + 1) (show m ≤ 48 by have := hv.len; omega); omega)
theorem kcost_x {s : Nat} (hs : 3 ≤ s) (hs2 : s ≤ 100000) (up : Bool) (A : Option Addr) (m n c : Nat) (lv : List St.Lv) (q : Rat) (aA aA' : Option Addr) (ak ac ak' ac' : Nat) (w : World) (h : LvAt w A m n lv) (hv : VL up n lv) (hq : RQ w q aA ak ac aA' ak' ac') (hl : Ls s q) (h0 : 0 ≤ q) (h1 : q ≤ ((totI lv : Int) : Rat)) :
  Calls Tryz.prog 32 #[.slice A m c, .agg #[.bool (decide (q.num < 0)), .slice aA ak ac, .bool false, .slice aA' ak' ac']] w (CstPost w (costAt (lvQ lv) q m)) := by
 have h3 := wb_three
 have h3s := wb_mono hs
 have hp := partAt_ls hs hv h0 hl
 refine kcost_ok (WB (2 * (48 * (s + 6) + 1) + 1)) (WB s) (WB s) (WB (48 * (s + 6) + 1)) (WB (48 * (s + 6) + 1)) (wb_ok (by omega)) (by omega) up A m n c lv _ false aA aA' ak ac ak' ac' q w h (hq.qs hl (by omega)) hv h0 h1 ?_
 refine costOK_s hs (by decide) (by rw [lvQ_len]; have := hv.len; omega) (fun k hk => (hp k (by rw [lvQ_len] at hk; exact hk)).2) fun x hx => ?_
 have := hv.prQ x hx
 omega
theorem kcost_ls {s : Nat} (hs : 3 ≤ s) {up : Bool} {m n : Nat} {lv : List St.Lv} (hm : lv.length = m) (hv : VL up n lv) {q : Rat} (h0 : 0 ≤ q) (hl : Ls s q) : Ls (48 * (s + 6) + 1) (costAt (lvQ lv) q m) := by
 have hp := partAt_ls hs hv h0 hl
 refine (costAt_ls (fun k hk => (hp k (by rw [lvQ_len] at hk; exact hk)).2) (fun x hx => by have := hv.prQ x hx; omega) m (by rw [lvQ_len]; omega)).mono ?_
 have := Nat.mul_le_mul_right (s + 6) (show m ≤ 48 by have := hv.len; omega)
 omega
/-- The plain law of StackOptimality, in the sums that its walk comes to. -/
theorem stack_sum {up : Bool} {n m : Nat} {ls : List (List (Int × Int))} {lv : List St.Lv} {gs : List Rat} (hn : ls.length = n) (hm : lv.length = m) (h : St.IsLv up n (St.tri 0 ls) lv) (hv : VL up n lv) (hk : ∀ l ∈ ls, chk up l = 0) (hg : goodA ls gs) :
  (0 ≤ qtyA gs n ∧ qtyA gs n ≤ ((totI lv : Int) : Rat)) ∧ goodA ls (qAll lv n (qtyA gs n) m) ∧ qtyA (qAll lv n (qtyA gs n) m) n = qtyA gs n ∧ moneyA ls (qAll lv n (qtyA gs n) m) n = costAt (lvQ lv) (qtyA gs n) m ∧ noWorse up (costAt (lvQ lv) (qtyA gs n) m) (moneyA ls gs n) ∧
  (costAt (lvQ lv) (qtyA gs n) m = moneyA ls gs n → ∀ i, i < n → (∀ j, j < i → (qAll lv n (qtyA gs n) m)[j]?.getD 0 = gs[j]?.getD 0) → (qAll lv n (qtyA gs n) m)[i]?.getD 0 ≠ gs[i]?.getD 0 → (qAll lv n (qtyA gs n) m)[i]?.getD 0 < gs[i]?.getD 0) := by
 subst hn
 subst hm
 have ea : ∀ xs : List Rat, moneyA ls xs ls.length = sumF (fun i => czQ (ls[i]?.getD []) (xs[i]?.getD 0)) ls.length := fun xs => sumF_eq fun i hi => costAt_cz _ _
 have eb : costAt (lvQ lv) (qtyA gs ls.length) lv.length = czQ (lvQ lv) (qtyA gs ls.length) := by
  rw [← lvQ_len lv]
  exact costAt_cz _ _
 obtain ⟨c1, c2, c3, c4, c5, c6⟩ := stack_opt h hv hk (ys := fun i => gs[i]?.getD 0) (q := qtyA gs ls.length) (fun i hi => by rw [← qsum_aT]; exact hg i hi) rfl
 rw [ea, ea, eb]
 refine ⟨⟨c1.1, by rw [← (aT_tot lv).1]; exact c1.2⟩, fun i hi => by rw [qsum_aT]; exact c2 i hi, c3, c4, c5, c6⟩
theorem no_levels {up : Bool} {n m : Nat} {ls : List (List (Int × Int))} {lv : List St.Lv} (hn : ls.length = n) (hm : lv.length = m) (h : St.IsLv up n (St.tri 0 ls) lv) (hk : ∀ l ∈ ls, chk up l = 0) (h0 : m = 0) : n = 0 := by
 apply Classical.byContradiction
 intro hne
 exact lv_some h hk (by omega) (by omega)

end Go.Proofs.YtjajigkacccdgaaGreat

namespace Go.Proofs.YtjajigkacccdgaaGreat
set_option linter.unusedVariables false
set_option linter.unusedSimpArgs false
open Go

section
variable {P : Program} {ops fr : Array Oper} {Q : Exit → Act → World → Prop} {N r : Nat}

/-- Behind the front comes k; another exit is the region's own. -/
def Qfr (Q : Exit → Act → World → Prop) (k : Act → World → Prop) : Exit → Act → World → Prop
 | .normal => k
 | .panic c => Q (.panic c)
 | e => Q e
theorem wpAny_more : ∀ (f : Nat) (l : Array Bool) (a : Act) (w : World), wpAny P .any ops Q f l a w → wpAny P .any ops Q (f + 1) l a w
 | 0, _, _, _, h => ⟨fun _ => h.2, by rw [h.1]; intro i hi; cases hi⟩
 | f + 1, l, a, w, h => ⟨h.1, fun i hi => wpOp_mono (fun a' w' => wpAny_more f _ a' w') (h.2 i hi)⟩
theorem wpAny_mores {f : Nat} {l : Array Bool} {a : Act} {w : World} (h : wpAny P .any ops Q f l a w) : ∀ k, wpAny P .any ops Q (f + k) l a w
 | 0 => h
 | k + 1 => wpAny_more _ _ _ _ (wpAny_mores h k)

/-- The operations that i waits for. -/
def needs (ops : Array Oper) (i : Nat) : List Nat := ((ops[i]?).map fun o => (o.after.toList.filter (Region.binds .any)).map (·.on)).getD []
/-- Operation j waits for i, by way of others. -/
def reach (ops : Array Oper) : Nat → Nat → Nat → Bool
 | 0, _, _ => false
 | f + 1, j, i => (needs ops j).any (fun k => k == i) || (needs ops j).any (fun k => reach ops f k i)
def Clo (ops : Array Oper) (l : Array Bool) : Prop := ∀ k, l.getD k false = true → ∀ e ∈ needs ops k, l.getD e false = true
theorem reach_listed {l : Array Bool} (hc : Clo ops l) : ∀ (f j i : Nat), (∀ e ∈ needs ops j, l.getD e false = true) → reach ops f j i = true → l.getD i false = true
 | 0, _, _, _, h => by cases h
 | f + 1, j, i, hj, h => by
  unfold reach at h
  rcases Bool.or_eq_true_iff.1 h with h | h
  ·obtain ⟨k, hk, e⟩ := List.any_eq_true.1 h
   rw [← eq_of_beq e]
   exact hj k hk
  ·obtain ⟨k, hk, e⟩ := List.any_eq_true.1 h
   exact reach_listed hc f k i (hc k (hj k hk)) e
theorem ready_needs {l : Array Bool} {i : Nat} : i ∈ Region.ready .any ops l ↔ l.getD i true = false ∧ i < ops.size ∧ ∀ e ∈ needs ops i, l.getD e false = true := by
 rw [mem_ready]
 unfold needs
 constructor
 ·rintro ⟨h0, o, ho, h⟩
  refine ⟨h0, (Array.getElem?_eq_some_iff.1 ho).1, ?_⟩
  rw [ho]
  intro e he
  simp only [Option.map_some, Option.getD_some, List.mem_map, List.mem_filter] at he
  obtain ⟨x, ⟨hx, hb⟩, rfl⟩ := he
  exact h x (by simpa using hx) hb
 ·rintro ⟨h0, hi, h⟩
  have ho : ops[i]? = some ops[i] := Array.getElem?_eq_getElem hi
  refine ⟨h0, _, ho, fun e he hb => ?_⟩
  refine h e.on ?_
  rw [ho]
  simp only [Option.map_some, Option.getD_some, List.mem_map, List.mem_filter]
  exact ⟨e, ⟨by simpa using he, hb⟩, rfl⟩
/-- The mask of the front. -/
def mask (N r : Nat) : Array Bool := Array.replicate N true ++ Array.replicate r false
def wide (l : Array Bool) (r : Nat) : Array Bool := l ++ Array.replicate r false
theorem wide_lt {l : Array Bool} {i : Nat} (d : Bool) (h : i < l.size) : (wide l r).getD i d = l.getD i d := by
 unfold wide
 simp [Array.getD_eq_getD_getElem?, Array.getElem?_append_left h]
theorem wide_ge {l : Array Bool} {i : Nat} (h : l.size ≤ i) : (wide l r).getD i false = false := by
 unfold wide
 rw [Array.getD_eq_getD_getElem?, Array.getElem?_append_right h, Array.getElem?_replicate]
 split <;> rfl
theorem wide_set {l : Array Bool} {i : Nat} (h : i < l.size) : (wide l r).setIfInBounds i true = wide (l.setIfInBounds i true) r := by
 unfold wide
 rw [Array.setIfInBounds_append_left h]
/-- What is asked of a region and its front: the front is its beginning; every operation waits for earlier ones and is guarded by an earlier one; each operation behind the front waits for all of the front. -/
def splits (ops : Array Oper) (N r : Nat) : Bool :=
 (ops.size == N + r) && ((List.range (N + r)).all fun i => (needs ops i).all (fun k => decide (k < i)) && (((ops[i]?).map fun o => match o.guard with | none => true | some (g, _) => decide (g < i)).getD true)) &&
  ((List.range r).all fun j => (List.range N).all fun i => reach ops (N + r) (N + j) i)

theorem wpOp_front {i : Nat} {o : Oper} {K K' : Act → World → Prop} {k : Act → World → Prop} {a : Act} {w : World} (h1 : fr[i]? = some o) (h2 : ops[i]? = some o) (hg : ∀ g b, o.guard = some (g, b) → fr[g]? = ops[g]?) (hK : ∀ a w, K a w → K' a w)
  (h : wpOp P fr (Qfr Q k) i K a w) : wpOp P ops Q i K' a w := by
 unfold wpOp at *
 simp only [h1, h2] at *
 have hw : Region.wanted o (yielded fr a.tmps) = Region.wanted o (yielded ops a.tmps) := by
  unfold Region.wanted
  cases ho : o.guard with
  | none => rfl
  | some p => obtain ⟨g, b⟩ := p; simp only [yielded, hg g b ho]
 rw [← hw]
 have hl : LetsOut (Qfr Q k) → LetsOut Q := fun ⟨a, w, h⟩ => ⟨a, w, h⟩
 split
 ·rename_i hw'
  simp only [hw', if_true] at h
  refine h.imp (fun h => ?_) (fun h => ⟨h.1, hl h.2⟩)
  unfold Oper.wp at *
  generalize (execOp a.eval o).run P w = res at *
  cases res with
  | ok n w' =>
   cases n <;> simp only [Oper.upon] at h ⊢
   case value => exact hK _ _ h
   case skip => exact hK _ _ h
   case defer => exact hK _ _ h
   case enter f args =>
    refine Calls.mono h fun e w'' he => ?_
    cases e with
    | returned u => exact hK _ _ he
    | panicked c => exact he
    | outgrown => exact hl he
   case row row args => exact Rows.mono h fun _ _ he => hK _ _ he
  | halt x w' => cases x <;> simp only [Oper.upon] at h ⊢ <;> exact h
 ·rename_i hw'
  simp only [hw'] at h
  exact hK _ _ h






theorem wpAny_split (hs : splits ops N r = true) (hf : fr.size = N) (hpre : ∀ i, i < N → fr[i]? = ops[i]?) : ∀ (f : Nat) (l : Array Bool) (a : Act) (w : World), l.size = N → Clo fr l →
  wpAny P .any fr (Qfr Q (wpAny P .any ops Q r (mask N r))) f l a w → wpAny P .any ops Q (f + r) (wide l r) a w := by
 unfold splits at hs
 simp only [Bool.and_eq_true, beq_iff_eq, List.all_eq_true, List.mem_range, decide_eq_true_eq] at hs
 obtain ⟨⟨hM, hA⟩, hR⟩ := hs
 have hneed : ∀ i, i < N → needs fr i = needs ops i := fun i hi => by unfold needs; rw [hpre i hi]
 -- all listed, or one that is not listed may come up
 have hmin : ∀ (l : Array Bool), l.size = N → (∀ i, i < N → l.getD i false = true) ∨ ∃ i, i < N ∧ i ∈ Region.ready .any fr l := fun l hl => by
  rcases Classical.em (∀ i, i < N → l.getD i false = true) with h | h
  ·exact .inl h
  ·right
   have : ∃ i, i < N ∧ l.getD i false = false := by
    rcases Classical.em (∃ i, i < N ∧ l.getD i false = false) with h' | h'
    ·exact h'
    ·exact absurd (fun i hi => by
      cases e : l.getD i false
      ·exact absurd ⟨i, hi, e⟩ h'
      ·rfl) h
   obtain ⟨i, hi, e⟩ := this
   induction i using Nat.strongRecOn with
   | ind i ih =>
    rcases Classical.em (∀ e ∈ needs fr i, l.getD e false = true) with h' | h'
    ·refine ⟨i, hi, ready_needs.2 ⟨?_, by omega, h'⟩⟩
     simp only [Array.getD_eq_getD_getElem?, Array.getElem?_eq_getElem (show i < l.size by omega), Option.getD_some] at e ⊢
     exact e
    ·have : ∃ k, k ∈ needs fr i ∧ l.getD k false = false := by
      rcases Classical.em (∃ k, k ∈ needs fr i ∧ l.getD k false = false) with h2 | h2
      ·exact h2
      ·exact absurd (fun k hk => by
        cases e : l.getD k false
        ·exact absurd ⟨k, hk, e⟩ h2
        ·rfl) h'
     obtain ⟨k, hk, e'⟩ := this
     have hlt : k < i := (hA i (by omega)).1 k (by rw [← hneed i hi]; exact hk)
     exact ih k hlt (by omega) e'
 have hfull : ∀ (l : Array Bool), l.size = N → (∀ i, i < N → l.getD i false = true) → wide l r = mask N r := fun l hl h => by
  unfold wide mask
  congr 1
  apply Array.ext
  ·simp [hl]
  ·intro i h1 h2
   have := h i (by omega)
   simp only [Array.getD_eq_getD_getElem?, Array.getElem?_eq_getElem h1, Option.getD_some] at this
   simp [this]
 intro f
 induction f with
 | zero =>
  intro l a w hl hc h
  rcases hmin l hl with h1 | ⟨i, _, h1⟩
  ·rw [hfull l hl h1, Nat.zero_add]
   exact h.2
  ·rw [h.1] at h1; cases h1
 | succ f ih =>
  intro l a w hl hc h
  rcases hmin l hl with h1 | ⟨i0, hi0, h1⟩
  ·have hr : Region.ready .any fr l = [] := by
    refine List.eq_nil_iff_forall_not_mem.2 fun i hi => ?_
    obtain ⟨g1, g2, -⟩ := ready_needs.1 hi
    have := h1 i (by omega)
    simp only [Array.getD_eq_getD_getElem?, Array.getElem?_eq_getElem (show i < l.size by omega), Option.getD_some] at this g1
    rw [g1] at this; cases this
   rw [hfull l hl h1, show f + 1 + r = r + (f + 1) by omega]
   exact wpAny_mores (h.1 hr) _
  ·have hcw : Clo ops (wide l r) := fun k hk e he => by
    rcases Nat.lt_or_ge k N with hk' | hk'
    ·rw [wide_lt false (by omega)] at hk
     have hlt : e < k := (hA k (by omega)).1 e he
     rw [wide_lt false (by omega)]
     exact hc k hk e (by rw [hneed k hk']; exact he)
    ·rw [wide_ge (by omega)] at hk; cases hk
   have hrd : ∀ i, i ∈ Region.ready .any ops (wide l r) → i < N ∧ i ∈ Region.ready .any fr l := fun i hi => by
    obtain ⟨g1, g2, g3⟩ := ready_needs.1 hi
    rcases Nat.lt_or_ge i N with hi' | hi'
    ·refine ⟨hi', ready_needs.2 ⟨by rw [wide_lt true (by omega)] at g1; exact g1, by omega, fun e he => ?_⟩⟩
     rw [hneed i hi'] at he
     have hlt : e < i := (hA i (by omega)).1 e he
     have := g3 e he
     rw [wide_lt false (by omega)] at this
     exact this
    ·exfalso
     have hall : ∀ k, k < N → (wide l r).getD k false = true := fun k hk => reach_listed hcw (N + r) i k g3 (by have := hR (i - N) (by omega) k hk; rw [show N + (i - N) = i by omega] at this; exact this)
     obtain ⟨q1, -, -⟩ := ready_needs.1 h1
     have := hall i0 hi0
     rw [wide_lt false (by omega)] at this
     simp only [Array.getD_eq_getD_getElem?, Array.getElem?_eq_getElem (show i0 < l.size by omega), Option.getD_some] at this q1
     rw [q1] at this; cases this
   have hin : i0 ∈ Region.ready .any ops (wide l r) := by
    obtain ⟨q1, -, q3⟩ := ready_needs.1 h1
    refine ready_needs.2 ⟨by rw [wide_lt true (by omega)]; exact q1, by omega, fun e he => ?_⟩
    have hlt : e < i0 := (hA i0 (by omega)).1 e he
    rw [wide_lt false (by omega)]
    exact q3 e (by rw [hneed i0 hi0]; exact he)
   rw [show f + 1 + r = (f + r) + 1 by omega]
   refine ⟨fun h0 => (by rw [h0] at hin; cases hin), fun i hi => ?_⟩
   obtain ⟨hiN, hi'⟩ := hrd i hi
   have ho : ops[i]? = some ops[i] := Array.getElem?_eq_getElem (show i < ops.size by omega)
   refine wpOp_front ((hpre i hiN).trans ho) ho (fun g b hgd => ?_) (fun a' w' h' => ?_) (h.2 i hi')
   ·have := (hA i (by omega)).2
    rw [ho] at this
    simp only [Option.map_some, Option.getD_some, hgd, decide_eq_true_eq] at this
    exact hpre g (by omega)
   ·rw [wide_set (by omega)]
    refine ih _ a' w' (by simp [hl]) ?_ h'
    intro k hk e he
    obtain ⟨q1, -, q3⟩ := ready_needs.1 hi'
    by_cases hki : i = k
    ·subst hki
     exact getD_set_true (q3 e he)
    ·rw [getD_set_ne false hki] at hk
     exact getD_set_true (hc k hk e he)

/-- **The beginning**: the front of the region under S, then the ends. -/
theorem wp_region_front {id : Nat} {a : Act} {w : World} (N r : Nat) (fr : Array Oper) (S : World → Prop) (hm : P.follows .mixedOrders = true) (hs : splits ops N r = true) (hfr : fr = (ops.toList.take N).toArray) (hS : S w.drew)
  (h : S w.drew → wpAnyH P .any fr (Qfr Q (wpAny P .any ops Q r (mask N r))) S N (Array.replicate N false) a w.drew) : (Code.region id ops true).wp P Q a w := by
 refine wp_region_any hm ?_
 have hs' := hs
 unfold splits at hs
 simp only [Bool.and_eq_true, beq_iff_eq] at hs
 have hM := hs.1.1
 have hsz : fr.size = N := by rw [hfr]; simp; omega
 have hz := wpAny_split (P := P) (Q := Q) hs' hsz (fun i hi => by
  rw [hfr, List.getElem?_toArray, List.getElem?_take]
  simp [hi]) N (Array.replicate N false) a w.drew (by simp) (fun k hk => by
   rw [Array.getD_eq_getD_getElem?, Array.getElem?_replicate] at hk
   split at hk <;> cases hk) (wpAny_of_held _ _ _ _ (h hS))
 rw [hM]
 have e : wide (Array.replicate N false) r = Array.replicate (N + r) false := by
  unfold wide
  rw [Array.replicate_append_replicate]
 rw [e] at hz
 exact hz
end
end Go.Proofs.YtjajigkacccdgaaGreat