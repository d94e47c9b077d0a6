/-
The reference of layer 30: Fill. No statement of the seat is proved here; no conditions beyond those of each theorem.
-/
import Derived.Test.YtodkhjihkkmplaaGreatLRd2
import Derived.Test.YtodkhjihkkmplaaGreatLRu4
import Derived.Test.YtodkhjihkkmplaaGreatLQA
import Derived.Test.YtodkhjihkkmplaaGreatLRc2
import Derived.Deep.CutRange
import Derived.Deep.DrawnRows
namespace Go.Proofs.YtodkhjihkkmplaaGreat
set_option linter.unusedVariables false
set_option linter.unusedSimpArgs false
open Go.RowKit
open Wd

theorem bs_made (n : Nat) : madeCells #[.bool false] n = ((List.replicate n false).map Value.bool).toArray := by
 apply Array.ext
 ·simp [size_madeCells]
 ·intro i h1 h2
  simp [madeCells, Nat.mod_one]
theorem info_bl : (Tryz.prog.info? 4).map (fun i => (i.zero, i.size, i.bytes)) = some (some (.bool false), 1, 1) := by kernel_rfl
theorem run_make_bl (k : Nat) (hk : k ≤ 1000000000) (w : World) :
  (Instr.makeSlice 23 (.int .i64 (k : Int)) (.int .i64 (k : Int))).run Tryz.prog w = .ok (.slice (some ⟨w.heap.size, 0, none⟩) k k) (w.alloc (.cells ((List.replicate k false).map Value.bool).toArray 4)) := by
 obtain ⟨i0, hi, hz0, hz1, hz2⟩ := info_parts info_bl
 have h := run_make (P := Tryz.prog) w 23 4 i0 _ Tryz.underlying23 hi hz0 .i64 .i64 k k (by omega) (Int.le_refl _) (by rw [hz2]; omega) (by omega)
 rw [h, hz1]
 simp only [Int.toNat_natCast, Value.cells, Nat.mul_one]
 rw [bs_made]
/-- A row of booleans in its own block. -/
def BlRow (w : World) (g : Nat) (xs : List Bool) : Prop := Blk w g 4 (xs.map Value.bool).toArray
theorem BlRow.cell {w : World} {g : Nat} {xs : List Bool} (h : BlRow w g xs) {i : Nat} (hi : i < xs.length) : w.cell? ⟨g, i, none⟩ = some (.bool (xs[i]?.getD false)) := by
 rw [Blk.cell h]
 simp [hi]
theorem BlRow.set {w : World} {g : Nat} {xs : List Bool} (h : BlRow w g xs) (i : Nat) (v : Bool) : BlRow (w.setCell ⟨g, i, none⟩ (.bool v)) g (xs.set i v) := by
 have := Blk.set h i (.bool v)
 unfold BlRow
 simpa using this
theorem BlRow.noInt (xs : List Bool) : NoInt (xs.map Value.bool).toArray := by
 intro i x k hi
 simp only [List.getElem?_toArray, List.getElem?_map] at hi
 cases h : xs[i]? <;> rw [h] at hi <;> simp at hi

theorem QRow.setQ {w : World} {g n g' : Nat} {ps : List Rat} {t : TypeId} {cs : Array Value} (h : QRow w g n ps) (hb : Blk w g' t cs) (hn : NoInt cs) (hne : g' ≠ g) (i : Nat) (v : Value) : QRow (w.setCell ⟨g', i, none⟩ v) g n ps := by
 obtain ⟨h1, cs1, h2, h3, h4, h5⟩ := h
 refine ⟨h1, cs1, h2.far (p := ⟨g', i, none⟩) hne.symm v, h3, h4, fun j hj => ?_⟩
 obtain ⟨A, k, c, A', k', c', e1, e2, e3, e4, e5, e6, e7, e8⟩ := h5 j hj
 exact ⟨A, k, c, A', k', c', e1, e2, e3, e4, e5, e6, e7.setQ hb hn i v, e8.setQ hb hn i v⟩
theorem RQ.setQ {w : World} {g' : Nat} {q : Rat} {A A' : Option Addr} {k c k' c' : Nat} {t : TypeId} {cs : Array Value} (h : RQ w q A k c A' k' c') (hb : Blk w g' t cs) (hn : NoInt cs) (i : Nat) (v : Value) : RQ (w.setCell ⟨g', i, none⟩ v) q A k c A' k' c' :=
 ⟨h.1, h.2.1, h.2.2.1.setQ hb hn i v, h.2.2.2.setQ hb hn i v⟩
/-- Which units are done after j. -/
def dnV (n : Nat) (ord : List Nat) (j : Nat) : List Bool := (List.range n).map fun i => decide (i ∈ ord.take j)
theorem dnV_get {n : Nat} {ord : List Nat} {j i : Nat} (hi : i < n) : (dnV n ord j)[i]?.getD false = decide (i ∈ ord.take j) := by simp [dnV, hi]
theorem dnV_len (n : Nat) (ord : List Nat) (j : Nat) : (dnV n ord j).length = n := by simp [dnV]
theorem dnV_next {n : Nat} {ord : List Nat} {j : Nat} (hj : j < ord.length) : dnV n ord (j + 1) = (dnV n ord j).set (ord[j]?.getD 0) true := by
 apply List.ext_getElem?
 intro i
 rw [List.getElem?_eq_getElem hj, Option.getD_some]
 by_cases hi : i < n
 ·by_cases hij : i = ord[j]
  ·rw [← hij, List.getElem?_set_self (by rw [dnV_len]; exact hi)]
   simp only [dnV, List.getElem?_map, List.getElem?_range hi, Option.map_some]
   rw [List.take_succ_eq_append_getElem hj, hij]
   rw [decide_eq_true (List.mem_append_right _ (List.mem_singleton.2 rfl))]
  ·rw [List.getElem?_set_ne (Ne.symm hij)]
   simp only [dnV, List.getElem?_map, List.getElem?_range hi, Option.map_some]
   rw [List.take_succ_eq_append_getElem hj]
   congr 1
   refine decide_eq_decide.2 ?_
   rw [List.mem_append, List.mem_singleton]
   exact ⟨fun h => h.resolve_right hij, .inl⟩
 ·rw [List.getElem?_eq_none (by rw [dnV_len]; omega), List.getElem?_eq_none (by rw [List.length_set, dnV_len]; omega)]
theorem dnV_zero (n : Nat) (ord : List Nat) : dnV n ord 0 = List.replicate n false := by
 apply List.ext_getElem
 ·simp [dnV]
 ·intro i h1 h2
  simp [dnV]
/-- The reference's step is the program's. -/
theorem fis_ref {us : List Un} {bs : List Bool} {qs : List Rat} {need : Int} {ord : List Nat} (hr : rchk us bs qs need = 0) (ho : Rv.Ord (spF us) us.length ord) {j : Nat} (hj : j < us.length) :
  FiS us bs qs need ord (j + 1) = Rv.rstepR (rmR us bs qs) (spF us) (FiS us bs qs need ord j) (ord[j]?.getD 0) := by
 have hl : ord.length = us.length := by rw [ho.1.length_eq, List.length_range]
 have hjl : j < ord.length := by omega
 obtain ⟨_, hin, hnot⟩ := Rv.scan_ord ho hj (fun i => decide (i ∈ ord.take j)) (fun i _ => rfl)
 have hneed : (0 : Rat) ≤ (need : Rat) := by
  have := (rchk_ok hr).2.2.2.1
  have : ((0 : Int) : Rat) ≤ ((need : Int) : Rat) := Rat.intCast_le_intCast.2 this
  exact this
 have I := Rv.inv_take (good_of hr) ho hneed j (by omega)
 rw [fis_next hjl, ← Rv.rstepR_eq (s := FiS us bs qs need ord j) (fun h => (good_of hr).goff _ hin h) I.rest (by rw [show (FiS us bs qs need ord j).tk.length = us.length from I.len]; exact hin) (I.new _ hnot)]
 unfold Rv.rstepR
 rw [show rmR us bs qs (ord[j]?.getD 0) = rmF us bs qs (ord[j]?.getD 0) from room_rm hr hin]
theorem fis_lv {us : List Un} {bs : List Bool} {qs : List Rat} {need : Int} {ord : List Nat} (hr : rchk us bs qs need = 0) (ho : Rv.Ord (spF us) us.length ord) (hlr : ∀ i, i < us.length → Lv 1 (rmR us bs qs i)) : ∀ j, j ≤ us.length → Lv (1 + j) (FiS us bs qs need ord j).rest ∧ ∀ i, Lv (1 + j) (Rv.gt (FiS us bs qs need ord j).tk i)
 | 0, _ => ⟨lv_int 1 (by have := rchk_ok hr; omega), fun i => by
  have e : Rv.gt (FiS us bs qs need ord 0).tk i = ((0 : Int) : Rat) := Rv.gt_rep
  rw [e]
  exact lv_int 1 (by decide)⟩
 | j + 1, h => by
  obtain ⟨h1, h2⟩ := fis_lv hr ho hlr j (by omega)
  obtain ⟨_, hin, _⟩ := Rv.scan_ord ho (show j < us.length by omega) (fun i => decide (i ∈ ord.take j)) (fun i _ => rfl)
  rw [fis_ref hr ho (by omega)]
  unfold Rv.rstepR
  have hm : Lv (1 + j) (if rmR us bs qs (ord[j]?.getD 0) < (FiS us bs qs need ord j).rest then rmR us bs qs (ord[j]?.getD 0) else (FiS us bs qs need ord j).rest) := by
   split
   ·exact (hlr _ hin).mono (by omega)
   ·exact h1
  refine ⟨h1.sub hm, fun i => ?_⟩
  simp only [Rv.gt]
  by_cases hi : i = ord[j]?.getD 0
  ·subst hi
   by_cases hl : ord[j]?.getD 0 < (FiS us bs qs need ord j).tk.length
   ·rw [List.getElem?_set_self hl]; exact hm.mono (by omega)
   ·rw [List.getElem?_eq_none (by rw [List.length_set]; omega)]
    exact lv_int _ (z := 0) (by decide)
  ·rw [List.getElem?_set_ne (Ne.symm hi)]
   exact (h2 i).mono (by omega)

/-- What the reference's Fill hands back. -/
def RFillA (n : Nat) (us : List Un) (bs : List Bool) (qs : List Rat) (need : Int) (w : World) (e : Ending) (w' : World) : Prop :=
 ∃ TA tn tc price s A k c A' k' c', e = .returned (.tuple #[.slice TA tn tc, .int .i64 price, .agg #[.bool s, .slice A k c, .bool false, .slice A' k' c'], .int .i64 (rchk us bs qs need)]) ∧ Below w.heap.size w w' ∧
  (rchk us bs qs need ≠ 0 → tn = 0 ∧ price = 0 ∧ s = false ∧ k = 0 ∧ k' = 0 ∧ 0 ≤ c ∧ 0 ≤ c') ∧
  (rchk us bs qs need = 0 → ∀ ord, Rv.Ord (spF us) n ord → tn = n ∧ price = (fillV us bs qs need ord).price ∧ s = decide ((fillV us bs qs need ord).rest.num < 0) ∧ QsAt w' TA n (fillV us bs qs need ord).tk ∧ RQ w' (fillV us bs qs need ord).rest A k c A' k' c')

/-- The loop's memory after j units. -/
def FrI (g1 g2 g3 n : Nat) (V : World) (dn : List Bool) (tk : List Rat) (rest : Rat) (wr : World) : Prop :=
 Below g1 V wr ∧ QRow wr g1 n tk ∧ BlRow wr g2 dn ∧ ∃ A k c A' k' c', Blk wr g3 31 #[.bool (decide (rest.num < 0)), .slice A k c, .bool false, .slice A' k' c'] ∧ RQ wr rest A k c A' k' c'

set_option maxRecDepth 100000 in
set_option maxHeartbeats 8000000 in
theorem rfill30_any (A B C : Option Addr) (n c m d p pc : Nat) (us : List Un) (bs : List Bool) (qs : List Rat) (need : Int) (w : World) (h : UsAt w A n us) (h' : BsAt w B m bs) (hg : GsAt 0 w C p qs) :
  Calls Tryz.prog 12 #[.slice A n c, .slice B m d, .slice C p pc, .int .i64 need] w (RFillA n us bs qs need w) := by
 have TW := Lib.hid (fun W (hW : Below w.heap.size w W) => rwrong_any A B C n c m d p pc us bs qs need W (h.below hW) (h'.below hW) (hg.below hW))
 unfold RFillA
 by_cases hr : rchk us bs qs need = 0
 ·rw [hr] at TW ⊢
  obtain ⟨ord, ho⟩ := Rv.ord_ex (spF us) us.length
  have hok := rchk_ok hr
  obtain ⟨k1, k2, k3⟩ := echk_ok hok.1
  have HU := Lib.hid h
  have HBS := Lib.hid h'
  have HQ := Lib.hid hg
  have hl := h.1
  have hn5 : n ≤ 5 := by omega
  have hpn : p = n := by have := hg.1; omega
  have hmn : m = n := by have := h'.1; omega
  have hneed : 0 ≤ need ∧ need ≤ 1000000 := by omega
  have hroom : ∀ i, i < n → 0 ≤ umax (us[i]?.getD U0) ∧ umax (us[i]?.getD U0) ≤ 3000000 := fun i hi => by
   have hm := k3 _ (getD_mem (d := U0) (l := us) (k := i) (by omega))
   have := uchk_ok hm
   omega
  have hlr : ∀ i, i < us.length → Lv 1 (rmR us bs qs i) := fun i hi => by
   obtain ⟨_, _, _, _, hc⟩ := hg.2 (by omega)
   obtain ⟨_, _, _, _, _, _, _, _, _, _, _, _, hq⟩ := hc i (by omega)
   unfold rmR roomV
   split
   ·exact (lv_int 0 (by have := hroom i (by omega); omega)).sub hq.lv
   ·exact lv_int 1 (by decide)
  have HLR := Lib.hid hlr
  have HLV := Lib.hid (fun j (hj : j ≤ n) => fis_lv hr ho hlr j (by omega))
  have HNX := Lib.hid (fun j (hj : j < n) => fis_ref hr ho (j := j) (by omega))
  have hol : ord.length = n := by rw [ho.1.length_eq, List.length_range]; exact hl
  have HORD := Lib.hid (fun j (hj : j < n) => Rv.scan_ord ho (j := j) (by omega) (fun i => (dnV n ord j)[i]?.getD false) (fun i hi => dnV_get (by omega)))
  have HDNX := Lib.hid (fun j (hj : j < n) => dnV_next (n := n) (ord := ord) (j := j) (by omega))
  have HEND : Hid (FiS us bs qs need ord n = fillV us bs qs need ord) := Lib.hid (by unfold FiS fillV; rw [← hol, List.take_length])
  have HTL := Lib.hid (fun j (hj : j ≤ n) => show (FiS us bs qs need ord j).tk.length = n from by
   have hneed0 : (0 : Rat) ≤ (need : Rat) := by
    have : ((0 : Int) : Rat) ≤ ((need : Int) : Rat) := Rat.intCast_le_intCast.2 hneed.1
    exact this
   have I := Rv.inv_take (good_of hr) ho hneed0 j (by omega)
   exact I.len.trans hl)
  have HPM := Lib.hid (And.intro hpn (And.intro hmn (And.intro hn5 hneed)))
  have HROOM := Lib.hid hroom
  have HLN := Lib.hid hl
  have HO := Lib.hid (show ∀ ord', Rv.Ord (spF us) n ord' → ord' = ord from fun ord' h9 => h9.uniq (by rw [← hl]; exact ho))
  have TI := Lib.hid (fun W => rint_any need W (by omega) (by omega))
  obtain ⟨nq, hnq⟩ : ∃ nq : Rat, nq = ((need : Int) : Rat) := ⟨_, rfl⟩
  rw [← hnq] at TI
  have HNQ := Lib.hid hnq
  clear hnq
  have hmq := fun w => run_make_Q n (by omega) w
  have hmb := fun w => run_make_bl n (by omega) w
  clear h h' hg hok k1 k2 k3 hl hn5 hpn hmn hneed hroom hlr hol ho
  go_enter Tryz.func12, Tryz.ntmps12
  go_wp2_with fail
  have hb0 := Blk.new w 31 #[.bool false, .slice none 0 0, .bool false, .slice none 0 0]
  have hbw := (Kp.refl w).alloc (.cells #[.bool false, .slice none 0 0, .bool false, .slice none 0 0] 31)
  refine (TW.out _ hbw).mono ?_
  rintro e w1 ⟨rfl, hb1⟩
  have H1 := Lib.hid (And.intro (Below.trans hbw (hb1.mono (Below.size hbw))) (Kp.blk hb1 hb0))
  clear hb0 hbw hb1 TW
  go_wp2_with fail
  refine (TI.out _).mono ?_
  rintro e w2 ⟨F3, f3, g3', G3, i3, j3, rfl, hz1, hz2, hz3, hz4, -, -, hb2⟩
  go_wp2_with fail
  have hM1 := QRow.start w1 n
  have hA1 := (Kp.refl (w1.alloc (.cells (madeCells qzero (n * 4)) 31))).alloc (.cells (Array.replicate n (Value.bool false)) 4)
  have hM2 : BlRow ((w1.alloc (.cells (madeCells qzero (n * 4)) 31)).alloc (.cells (Array.replicate n (Value.bool false)) 4)) (w1.heap.size + 1) (List.replicate n false) := by
   have := Blk.new1 w1 (.cells (madeCells qzero (n * 4)) 31) 4 (Array.replicate n (Value.bool false))
   unfold BlRow
   simpa using this
  have hx := (Kp.refl w2).alloc (.cells #[.bool (decide (nq.num < 0)), .slice F3 f3 g3', .bool false, .slice G3 i3 j3] 31)
  have hs12 : w1.heap.size + 1 < w2.heap.size := Nat.lt_of_lt_of_le (Blk.lt hM2) (Below.size hb2)
  have hx15 : Kp w1 (w2.alloc (.cells #[.bool (decide (nq.num < 0)), .slice F3 f3 g3', .bool false, .slice G3 i3 j3] 31)) := Kp.trans (Kp.trans (Kp.trans ((Kp.refl w1).alloc (.cells (madeCells qzero (n * 4)) 31)) hA1) hb2) hx
  have HV := Lib.hid (And.intro (H1.out.1.trans (hx15.mono (Below.size H1.out.1))) (And.intro (Kp.blk hx15 H1.out.2) (And.intro H1.out.2.lt (And.intro (((hM1.below hA1).below hb2).below hx) (And.intro (Kp.blk hx (Kp.blk hb2 hM2)) (And.intro (Blk.new w2 31 #[.bool (decide (nq.num < 0)), .slice F3 f3 g3', .bool false, .slice G3 i3 j3]) (RQ.below (RQ.below ⟨hz1, hz2, hz3, hz4⟩ hx) (Kp.refl _))))))))
  clear hM1 hA1 hM2 hx hx15 hz1 hz2 hz3 hz4 hb2 H1 TI hmq hmb
  generalize w2.alloc (.cells #[.bool (decide (nq.num < 0)), .slice F3 f3 g3', .bool false, .slice G3 i3 j3] 31) = V at *
  generalize hg2e : w1.heap.size + 1 = g2 at *
  generalize w1.heap.size = g1 at *
  generalize w2.heap.size = g3 at *
  have HGG := Lib.hid (show g1 < g2 ∧ g2 < g3 by omega)
  have HGV := Lib.hid (show g1 < V.heap.size from by obtain ⟨_, _, hx, _⟩ := HV.out.2.2.2.1; exact hx.lt)
  clear hg2e hs12 w1 w2
  go_loopw [16, 38] (fun pr t wr => ∃ j : Nat, j ≤ n ∧ pr = .int .i64 (FiS us bs qs need ord j).price ∧ t = .int .i64 (j : Int) ∧ Hid (FrI g1 g2 g3 n V (dnV n ord j) (FiS us bs qs need ord j).tk (FiS us bs qs need ord j).rest wr)) (fun _ t _ => n - (intOf t).toNat)
  case atStart => exact ⟨0, Nat.zero_le _, rfl, rfl, Lib.hid (by
   unfold FrI
   rw [show (FiS us bs qs need ord 0).rest = nq from HNQ.out.symm, show (FiS us bs qs need ord 0).tk = List.replicate n 0 by rw [← HLN.out]; rfl, dnV_zero]
   exact ⟨Below.refl _ _, HV.out.2.2.2.1, HV.out.2.2.2.2.1, F3, f3, g3', G3, i3, j3, HV.out.2.2.2.2.2.1, HV.out.2.2.2.2.2.2⟩)⟩
  case round =>
   obtain ⟨j, hj, rfl, rfl, hI⟩ := hrel
   by_cases hlt : j < n
   ·obtain ⟨wv, rfl⟩ : ∃ v, v = wr := ⟨_, rfl⟩
    go_wp2_with fail
    go_loopw [17, 18] (fun a t wi => ∃ k : Nat, k ≤ n ∧ a = .int .i64 (Rv.scan (fun i => (dnV n ord j)[i]?.getD false) (spF us) k) ∧ t = .int .i64 (k : Int) ∧ Hid (Kp wv wi)) (fun _ t _ => n - (intOf t).toNat)
    case atStart => exact ⟨0, Nat.zero_le _, rfl, rfl, Lib.hid (Kp.refl wv)⟩
    case round =>
     obtain ⟨k, hk, rfl, rfl, HK2⟩ := hrel
     have hgv : Below g1 V wr := hI.out.1.trans (Below.mono HK2.out (Nat.le_trans (Nat.le_of_lt HGV.out) (Below.size hI.out.1)))
     have hwr : Below w.heap.size w wr := HV.out.1.trans (hgv.mono (Nat.le_of_lt HV.out.2.2.1))
     by_cases hlk : k < n
     ·obtain ⟨b, o, rfl, hb, hcell⟩ := HU.out.2 (by omega)
      obtain ⟨_, _, _, ⟨_, _, _, _, _, _, _, f8, _⟩, _⟩ := (hcell k hlk).below hb hwr
      have hbr : b < wr.heap.size := Nat.lt_of_lt_of_le hb (Below.size hwr)
      have hg2 : g2 < wr.heap.size := Nat.lt_of_lt_of_le (Blk.lt hI.out.2.2.1) (Below.size HK2.out)
      have y0 := (Below.cell HK2.out (p := ⟨g2, k, none⟩) (Blk.lt hI.out.2.2.1)).trans (hI.out.2.2.1.cell (i := k) (by rw [dnV_len]; exact hlk))
      have hsc : Rv.scan (fun i => (dnV n ord j)[i]?.getD false) (spF us) (k + 1) = if !((dnV n ord j)[k]?.getD false) && (decide (Rv.scan (fun i => (dnV n ord j)[i]?.getD false) (spF us) k < 0) || decide (spF us k < spF us (Rv.scan (fun i => (dnV n ord j)[i]?.getD false) (spF us) k).toNat)) then (k : Int) else Rv.scan (fun i => (dnV n ord j)[i]?.getD false) (spF us) k := rfl
      have hss := Rv.scan_spec (fun i => (dnV n ord j)[i]?.getD false) (spF us) k
      have hki1 : (0 : Int) ≤ (k : Int) := by omega
      have hki2 : (k : Int) < (n : Int) := by omega
      have i1 : IntKind.i64.wrap ((k : Int) + 1) = ((k + 1 : Nat) : Int) := IntWalk.i64_in _ (by have := HPM.out; omega)
      generalize Rv.scan (fun i => (dnV n ord j)[i]?.getD false) (spF us) k = sc at *
      generalize (dnV n ord j)[k]?.getD false = db at *
      cases db
      ·rcases hss with ⟨h1, -⟩ | ⟨a, h1, h2, -⟩
       ·subst h1
        have HSC : Hid (Rv.scan (fun i => (dnV n ord j)[i]?.getD false) (spF us) (k + 1) = (k : Int)) := Lib.hid hsc
        have a0 : decide ((-1 : Int) < 0) = true := by decide
        clear hsc hcell hb hgv hwr f8 hbr
        have HS := Lib.hid (show ∀ w', Kp wr w' → (w'.cell? ⟨g2, k, none⟩ = some (.bool false)) ∧ Kp wr w' from fun w' hk => ⟨(Below.cell hk (p := ⟨g2, _, none⟩) hg2).trans y0, hk⟩)
        go_wp2_with fail
        refine wp_region_held_drew (S := fun w' => (w'.cell? ⟨g2, k, none⟩ = some (.bool false)) ∧ Kp wr w') (by kernel_rfl) (HS.out _ (Kp.drew (Kp.refl wr))) (fun hHeld => ?_)
        refine' tkk 0 rfl (by kernel_rfl) (fun _ _ _ h => h) (.inl ⟨by rfl, ?_⟩) (by assumption) ?_; rotate_left
        ·(intro w hSw; (try dsimp only at hSw); (try simp only [p1, p2, p3]); go_simp; first | done | with_reducible rfl)
        (try simp only [Act.put, p1, p2, p3, p4, p5, p6])
        refine' tkk 1 rfl (by kernel_rfl) (fun _ _ _ h => h) (.inl ⟨by rfl, ?_⟩) (by assumption) ?_; rotate_left
        ·(intro w hSw; (try dsimp only at hSw); (try simp only [p1, p2, p3]); go_simp; first | done | with_reducible rfl)
        (try simp only [Act.put, p1, p2, p3, p4, p5, p6])
        refine' tkk 2 rfl (by kernel_rfl) (fun _ _ _ h => h) (.inl ⟨by rfl, ?_⟩) (by assumption) ?_; rotate_left
        ·(intro w hSw; (try dsimp only at hSw); (try simp only [p1, p2, p3]); go_simp; first | done | with_reducible rfl)
        (try simp only [Act.put, p1, p2, p3, p4, p5, p6])
        refine' tkk 3 rfl (by kernel_rfl) (fun _ _ _ h => h) (.inl ⟨by rfl, ?_⟩) (by assumption) ?_; rotate_left
        ·(intro w hSw; (try dsimp only at hSw); (try simp only [p1, p2, p3]); go_simp; first | done | with_reducible rfl)
        (try simp only [Act.put, p1, p2, p3, p4, p5, p6])
        refine' tkk 4 rfl (by kernel_rfl) (fun _ _ _ h => h) (.inl ⟨by rfl, ?_⟩) (by assumption) ?_; rotate_left
        ·(intro w hSw; (try dsimp only at hSw); (try simp only [p1, p2, p3]); go_simp; first | done | with_reducible rfl)
        (try simp only [Act.put, p1, p2, p3, p4, p5, p6])
        refine' tkk 5 rfl (by kernel_rfl) (fun _ _ _ h => h) (.inl ⟨by rfl, ?_⟩) (by assumption) ?_; rotate_left
        ·(intro w hSw; (try dsimp only at hSw); (try simp only [p1, p2, p3]); go_simp; first | done | with_reducible rfl)
        (try simp only [Act.put, p1, p2, p3, p4, p5, p6])
        refine' tkk 6 rfl (by kernel_rfl) (fun _ _ _ h => h) (.inl ⟨by rfl, ?_⟩) (by assumption) ?_; rotate_left
        ·(intro w hSw; (try dsimp only at hSw); (try simp only [p1, p2, p3]); go_simp; first | done | with_reducible rfl)
        (try simp only [Act.put, p1, p2, p3, p4, p5, p6])
        refine' tkk 7 rfl (by kernel_rfl) (fun _ _ _ h => h) (.inl ⟨by rfl, ?_⟩) (by assumption) ?_; rotate_left
        ·(intro w hSw; (try dsimp only at hSw); (try simp only [p1, p2, p3]); go_simp; first | done | with_reducible rfl)
        (try simp only [Act.put, p1, p2, p3, p4, p5, p6])
        refine' tkk 8 rfl (by kernel_rfl) (fun _ _ _ h => h) (.inl ⟨by rfl, ?_⟩) (by assumption) ?_; rotate_left
        ·(intro w hSw; (try dsimp only at hSw); (try simp only [p1, p2, p3]); go_simp; first | done | with_reducible rfl)
        (try simp only [Act.put, p1, p2, p3, p4, p5, p6])
        refine tkk (v := undef) 9 rfl (by kernel_rfl) (fun _ _ _ h => h) (.inr ⟨by rfl, rfl⟩) (by assumption) ?_
        (try simp only [Act.put, p1, p2, p3, p4, p5, p6])
        refine tkk (v := undef) 10 rfl (by kernel_rfl) (fun _ _ _ h => h) (.inr ⟨by rfl, rfl⟩) (by assumption) ?_
        (try simp only [Act.put, p1, p2, p3, p4, p5, p6])
        refine tkk (v := undef) 11 rfl (by kernel_rfl) (fun _ _ _ h => h) (.inr ⟨by rfl, rfl⟩) (by assumption) ?_
        (try simp only [Act.put, p1, p2, p3, p4, p5, p6])
        refine tkk (v := undef) 12 rfl (by kernel_rfl) (fun _ _ _ h => h) (.inr ⟨by rfl, rfl⟩) (by assumption) ?_
        (try simp only [Act.put, p1, p2, p3, p4, p5, p6])
        refine tkk (v := undef) 13 rfl (by kernel_rfl) (fun _ _ _ h => h) (.inr ⟨by rfl, rfl⟩) (by assumption) ?_
        (try simp only [Act.put, p1, p2, p3, p4, p5, p6])
        refine tkk (v := undef) 14 rfl (by kernel_rfl) (fun _ _ _ h => h) (.inr ⟨by rfl, rfl⟩) (by assumption) ?_
        (try simp only [Act.put, p1, p2, p3, p4, p5, p6])
        refine tkk (v := undef) 15 rfl (by kernel_rfl) (fun _ _ _ h => h) (.inr ⟨by rfl, rfl⟩) (by assumption) ?_
        (try simp only [Act.put, p1, p2, p3, p4, p5, p6])
        refine tkk (v := undef) 16 rfl (by kernel_rfl) (fun _ _ _ h => h) (.inr ⟨by rfl, rfl⟩) (by assumption) ?_
        (try simp only [Act.put, p1, p2, p3, p4, p5, p6])
        refine tkk (v := undef) 17 rfl (by kernel_rfl) (fun _ _ _ h => h) (.inr ⟨by rfl, rfl⟩) (by assumption) ?_
        (try simp only [Act.put, p1, p2, p3, p4, p5, p6])
        refine tkk (v := undef) 18 rfl (by kernel_rfl) (fun _ _ _ h => h) (.inr ⟨by rfl, rfl⟩) (by assumption) ?_
        (try simp only [Act.put, p1, p2, p3, p4, p5, p6])
        refine tkk (v := undef) 19 rfl (by kernel_rfl) (fun _ _ _ h => h) (.inr ⟨by rfl, rfl⟩) (by assumption) ?_
        (try simp only [Act.put, p1, p2, p3, p4, p5, p6])
        refine' tkk 20 rfl (by kernel_rfl) (fun _ _ _ h => h) (.inl ⟨by rfl, ?_⟩) (by assumption) ?_; rotate_left
        ·(intro w hSw; (try dsimp only at hSw); (try simp only [p1, p2, p3]); go_simp; first | done | with_reducible rfl)
        (try simp only [Act.put, p1, p2, p3, p4, p5, p6])
        refine' tkk 21 rfl (by kernel_rfl) (fun _ _ _ h => h) (.inl ⟨by rfl, ?_⟩) (by assumption) ?_; rotate_left
        ·(intro w hSw; (try dsimp only at hSw); (try simp only [p1, p2, p3]); go_simp; first | done | with_reducible rfl)
        (try simp only [Act.put, p1, p2, p3, p4, p5, p6])
        refine wpAnyH_done (by kernel_rfl) ?_ _
        have HF := Lib.hid (Kp.trans HK2.out (Kp.drew (Kp.refl wr)))
        (try clear HS)
        go_wp2
        go_roundw
        case rel => exact ⟨k + 1, by omega, by rw [HSC.out], by first | rfl | go_num, HF⟩
        case measure => simp [intOf]; omega
       ·subst h1
        obtain ⟨_, _, _, ⟨_, _, _, _, _, _, _, p8, _⟩, _⟩ := (hcell a (by omega)).below hb hwr
        have a0 : decide ((a : Int) < 0) = false := decide_eq_false (by omega)
        have a1 : (0 : Int) ≤ (a : Int) := by omega
        have a2 : (a : Int) < (n : Int) := by omega
        have hta : ((a : Nat) : Int).toNat = a := by omega
        rw [a0, hta] at hsc
        have e1 : spF us k = (us[k]?.getD U0).spin := rfl
        have e2 : spF us a = (us[a]?.getD U0).spin := rfl
        rw [e1, e2] at hsc
        generalize (us[k]?.getD U0).spin = spk at *
        generalize (us[a]?.getD U0).spin = spa at *
        clear e1 e2 hcell hb hgv hwr hta h2
        by_cases hs : spk < spa
        ·have hd : decide (spk < spa) = true := decide_eq_true hs
         rw [hd] at hsc
         have HSC : Hid (Rv.scan (fun i => (dnV n ord j)[i]?.getD false) (spF us) (k + 1) = (k : Int)) := Lib.hid hsc
         clear hsc hs
         have HS := Lib.hid (show ∀ w', Kp wr w' → (w'.cell? ⟨g2, k, none⟩ = some (.bool false) ∧ w'.cell? ⟨b, o + k * 9 + 7, none⟩ = some (.int .i64 spk) ∧ w'.cell? ⟨b, o + a * 9 + 7, none⟩ = some (.int .i64 spa)) ∧ Kp wr w' from fun w' hk => ⟨⟨(Below.cell hk (p := ⟨g2, _, none⟩) hg2).trans y0, (Below.cell hk (p := ⟨b, _, none⟩) hbr).trans f8, (Below.cell hk (p := ⟨b, _, none⟩) hbr).trans p8⟩, hk⟩)
         go_wp2_with fail
         refine wp_region_held_drew (S := fun w' => (w'.cell? ⟨g2, k, none⟩ = some (.bool false) ∧ w'.cell? ⟨b, o + k * 9 + 7, none⟩ = some (.int .i64 spk) ∧ w'.cell? ⟨b, o + a * 9 + 7, none⟩ = some (.int .i64 spa)) ∧ Kp wr w') (by kernel_rfl) (HS.out _ (Kp.drew (Kp.refl wr))) (fun hHeld => ?_)
         refine' tkk 0 rfl (by kernel_rfl) (fun _ _ _ h => h) (.inl ⟨by rfl, ?_⟩) (by assumption) ?_; rotate_left
         ·(intro w hSw; (try dsimp only at hSw); (try simp only [p1, p2, p3]); go_simp; first | done | with_reducible rfl)
         (try simp only [Act.put, p1, p2, p3, p4, p5, p6])
         refine' tkk 1 rfl (by kernel_rfl) (fun _ _ _ h => h) (.inl ⟨by rfl, ?_⟩) (by assumption) ?_; rotate_left
         ·(intro w hSw; (try dsimp only at hSw); (try simp only [p1, p2, p3]); go_simp; first | done | with_reducible rfl)
         (try simp only [Act.put, p1, p2, p3, p4, p5, p6])
         refine' tkk 2 rfl (by kernel_rfl) (fun _ _ _ h => h) (.inl ⟨by rfl, ?_⟩) (by assumption) ?_; rotate_left
         ·(intro w hSw; (try dsimp only at hSw); (try simp only [p1, p2, p3]); go_simp; first | done | with_reducible rfl)
         (try simp only [Act.put, p1, p2, p3, p4, p5, p6])
         refine' tkk 3 rfl (by kernel_rfl) (fun _ _ _ h => h) (.inl ⟨by rfl, ?_⟩) (by assumption) ?_; rotate_left
         ·(intro w hSw; (try dsimp only at hSw); (try simp only [p1, p2, p3]); go_simp; first | done | with_reducible rfl)
         (try simp only [Act.put, p1, p2, p3, p4, p5, p6])
         refine' tkk 4 rfl (by kernel_rfl) (fun _ _ _ h => h) (.inl ⟨by rfl, ?_⟩) (by assumption) ?_; rotate_left
         ·(intro w hSw; (try dsimp only at hSw); (try simp only [p1, p2, p3]); go_simp; first | done | with_reducible rfl)
         (try simp only [Act.put, p1, p2, p3, p4, p5, p6])
         refine' tkk 5 rfl (by kernel_rfl) (fun _ _ _ h => h) (.inl ⟨by rfl, ?_⟩) (by assumption) ?_; rotate_left
         ·(intro w hSw; (try dsimp only at hSw); (try simp only [p1, p2, p3]); go_simp; first | done | with_reducible rfl)
         (try simp only [Act.put, p1, p2, p3, p4, p5, p6])
         refine' tkk 6 rfl (by kernel_rfl) (fun _ _ _ h => h) (.inl ⟨by rfl, ?_⟩) (by assumption) ?_; rotate_left
         ·(intro w hSw; (try dsimp only at hSw); (try simp only [p1, p2, p3]); go_simp; first | done | with_reducible rfl)
         (try simp only [Act.put, p1, p2, p3, p4, p5, p6])
         refine' tkk 7 rfl (by kernel_rfl) (fun _ _ _ h => h) (.inl ⟨by rfl, ?_⟩) (by assumption) ?_; rotate_left
         ·(intro w hSw; (try dsimp only at hSw); (try simp only [p1, p2, p3]); go_simp; first | done | with_reducible rfl)
         (try simp only [Act.put, p1, p2, p3, p4, p5, p6])
         refine' tkk 8 rfl (by kernel_rfl) (fun _ _ _ h => h) (.inl ⟨by rfl, ?_⟩) (by assumption) ?_; rotate_left
         ·(intro w hSw; (try dsimp only at hSw); (try simp only [p1, p2, p3]); go_simp; first | done | with_reducible rfl)
         (try simp only [Act.put, p1, p2, p3, p4, p5, p6])
         refine' tkk 9 rfl (by kernel_rfl) (fun _ _ _ h => h) (.inl ⟨by rfl, ?_⟩) (by assumption) ?_; rotate_left
         ·(intro w hSw; (try dsimp only at hSw); (try simp only [p1, p2, p3]); go_simp; first | done | with_reducible rfl)
         (try simp only [Act.put, p1, p2, p3, p4, p5, p6])
         refine' tkk 10 rfl (by kernel_rfl) (fun _ _ _ h => h) (.inl ⟨by rfl, ?_⟩) (by assumption) ?_; rotate_left
         ·(intro w hSw; (try dsimp only at hSw); (try simp only [p1, p2, p3]); go_simp; first | done | with_reducible rfl)
         (try simp only [Act.put, p1, p2, p3, p4, p5, p6])
         refine' tkk 11 rfl (by kernel_rfl) (fun _ _ _ h => h) (.inl ⟨by rfl, ?_⟩) (by assumption) ?_; rotate_left
         ·(intro w hSw; (try dsimp only at hSw); (try simp only [p1, p2, p3]); go_simp; first | done | with_reducible rfl)
         (try simp only [Act.put, p1, p2, p3, p4, p5, p6])
         refine' tkk 12 rfl (by kernel_rfl) (fun _ _ _ h => h) (.inl ⟨by rfl, ?_⟩) (by assumption) ?_; rotate_left
         ·(intro w hSw; (try dsimp only at hSw); (try simp only [p1, p2, p3]); go_simp; first | done | with_reducible rfl)
         (try simp only [Act.put, p1, p2, p3, p4, p5, p6])
         refine' tkk 13 rfl (by kernel_rfl) (fun _ _ _ h => h) (.inl ⟨by rfl, ?_⟩) (by assumption) ?_; rotate_left
         ·(intro w hSw; (try dsimp only at hSw); (try simp only [p1, p2, p3]); go_simp; first | done | with_reducible rfl)
         (try simp only [Act.put, p1, p2, p3, p4, p5, p6])
         refine' tkk 14 rfl (by kernel_rfl) (fun _ _ _ h => h) (.inl ⟨by rfl, ?_⟩) (by assumption) ?_; rotate_left
         ·(intro w hSw; (try dsimp only at hSw); (try simp only [p1, p2, p3]); go_simp; first | done | with_reducible rfl)
         (try simp only [Act.put, p1, p2, p3, p4, p5, p6])
         refine' tkk 15 rfl (by kernel_rfl) (fun _ _ _ h => h) (.inl ⟨by rfl, ?_⟩) (by assumption) ?_; rotate_left
         ·(intro w hSw; (try dsimp only at hSw); (try simp only [p1, p2, p3]); go_simp; first | done | with_reducible rfl)
         (try simp only [Act.put, p1, p2, p3, p4, p5, p6])
         refine' tkk 16 rfl (by kernel_rfl) (fun _ _ _ h => h) (.inl ⟨by rfl, ?_⟩) (by assumption) ?_; rotate_left
         ·(intro w hSw; (try dsimp only at hSw); (try simp only [p1, p2, p3]); go_simp; first | done | with_reducible rfl)
         (try simp only [Act.put, p1, p2, p3, p4, p5, p6])
         refine' tkk 17 rfl (by kernel_rfl) (fun _ _ _ h => h) (.inl ⟨by rfl, ?_⟩) (by assumption) ?_; rotate_left
         ·(intro w hSw; (try dsimp only at hSw); (try simp only [p1, p2, p3]); go_simp; first | done | with_reducible rfl)
         (try simp only [Act.put, p1, p2, p3, p4, p5, p6])
         refine' tkk 18 rfl (by kernel_rfl) (fun _ _ _ h => h) (.inl ⟨by rfl, ?_⟩) (by assumption) ?_; rotate_left
         ·(intro w hSw; (try dsimp only at hSw); (try simp only [p1, p2, p3]); go_simp; first | done | with_reducible rfl)
         (try simp only [Act.put, p1, p2, p3, p4, p5, p6])
         refine' tkk 19 rfl (by kernel_rfl) (fun _ _ _ h => h) (.inl ⟨by rfl, ?_⟩) (by assumption) ?_; rotate_left
         ·(intro w hSw; (try dsimp only at hSw); (try simp only [p1, p2, p3]); go_simp; first | done | with_reducible rfl)
         (try simp only [Act.put, p1, p2, p3, p4, p5, p6])
         refine' tkk 20 rfl (by kernel_rfl) (fun _ _ _ h => h) (.inl ⟨by rfl, ?_⟩) (by assumption) ?_; rotate_left
         ·(intro w hSw; (try dsimp only at hSw); (try simp only [p1, p2, p3]); go_simp; first | done | with_reducible rfl)
         (try simp only [Act.put, p1, p2, p3, p4, p5, p6])
         refine' tkk 21 rfl (by kernel_rfl) (fun _ _ _ h => h) (.inl ⟨by rfl, ?_⟩) (by assumption) ?_; rotate_left
         ·(intro w hSw; (try dsimp only at hSw); (try simp only [p1, p2, p3]); go_simp; first | done | with_reducible rfl)
         (try simp only [Act.put, p1, p2, p3, p4, p5, p6])
         refine wpAnyH_done (by kernel_rfl) ?_ _
         have HF := Lib.hid (Kp.trans HK2.out (Kp.drew (Kp.refl wr)))
         (try clear HS)
         go_wp2
         go_roundw
         case rel => exact ⟨k + 1, by omega, by rw [HSC.out], by first | rfl | go_num, HF⟩
         case measure => simp [intOf]; omega
        ·have hd : decide (spk < spa) = false := decide_eq_false hs
         rw [hd] at hsc
         have HSC : Hid (Rv.scan (fun i => (dnV n ord j)[i]?.getD false) (spF us) (k + 1) = (a : Int)) := Lib.hid hsc
         clear hsc hs
         have HS := Lib.hid (show ∀ w', Kp wr w' → (w'.cell? ⟨g2, k, none⟩ = some (.bool false) ∧ w'.cell? ⟨b, o + k * 9 + 7, none⟩ = some (.int .i64 spk) ∧ w'.cell? ⟨b, o + a * 9 + 7, none⟩ = some (.int .i64 spa)) ∧ Kp wr w' from fun w' hk => ⟨⟨(Below.cell hk (p := ⟨g2, _, none⟩) hg2).trans y0, (Below.cell hk (p := ⟨b, _, none⟩) hbr).trans f8, (Below.cell hk (p := ⟨b, _, none⟩) hbr).trans p8⟩, hk⟩)
         go_wp2_with fail
         refine wp_region_held_drew (S := fun w' => (w'.cell? ⟨g2, k, none⟩ = some (.bool false) ∧ w'.cell? ⟨b, o + k * 9 + 7, none⟩ = some (.int .i64 spk) ∧ w'.cell? ⟨b, o + a * 9 + 7, none⟩ = some (.int .i64 spa)) ∧ Kp wr w') (by kernel_rfl) (HS.out _ (Kp.drew (Kp.refl wr))) (fun hHeld => ?_)
         refine' tkk 0 rfl (by kernel_rfl) (fun _ _ _ h => h) (.inl ⟨by rfl, ?_⟩) (by assumption) ?_; rotate_left
         ·(intro w hSw; (try dsimp only at hSw); (try simp only [p1, p2, p3]); go_simp; first | done | with_reducible rfl)
         (try simp only [Act.put, p1, p2, p3, p4, p5, p6])
         refine' tkk 1 rfl (by kernel_rfl) (fun _ _ _ h => h) (.inl ⟨by rfl, ?_⟩) (by assumption) ?_; rotate_left
         ·(intro w hSw; (try dsimp only at hSw); (try simp only [p1, p2, p3]); go_simp; first | done | with_reducible rfl)
         (try simp only [Act.put, p1, p2, p3, p4, p5, p6])
         refine' tkk 2 rfl (by kernel_rfl) (fun _ _ _ h => h) (.inl ⟨by rfl, ?_⟩) (by assumption) ?_; rotate_left
         ·(intro w hSw; (try dsimp only at hSw); (try simp only [p1, p2, p3]); go_simp; first | done | with_reducible rfl)
         (try simp only [Act.put, p1, p2, p3, p4, p5, p6])
         refine' tkk 3 rfl (by kernel_rfl) (fun _ _ _ h => h) (.inl ⟨by rfl, ?_⟩) (by assumption) ?_; rotate_left
         ·(intro w hSw; (try dsimp only at hSw); (try simp only [p1, p2, p3]); go_simp; first | done | with_reducible rfl)
         (try simp only [Act.put, p1, p2, p3, p4, p5, p6])
         refine' tkk 4 rfl (by kernel_rfl) (fun _ _ _ h => h) (.inl ⟨by rfl, ?_⟩) (by assumption) ?_; rotate_left
         ·(intro w hSw; (try dsimp only at hSw); (try simp only [p1, p2, p3]); go_simp; first | done | with_reducible rfl)
         (try simp only [Act.put, p1, p2, p3, p4, p5, p6])
         refine' tkk 5 rfl (by kernel_rfl) (fun _ _ _ h => h) (.inl ⟨by rfl, ?_⟩) (by assumption) ?_; rotate_left
         ·(intro w hSw; (try dsimp only at hSw); (try simp only [p1, p2, p3]); go_simp; first | done | with_reducible rfl)
         (try simp only [Act.put, p1, p2, p3, p4, p5, p6])
         refine' tkk 6 rfl (by kernel_rfl) (fun _ _ _ h => h) (.inl ⟨by rfl, ?_⟩) (by assumption) ?_; rotate_left
         ·(intro w hSw; (try dsimp only at hSw); (try simp only [p1, p2, p3]); go_simp; first | done | with_reducible rfl)
         (try simp only [Act.put, p1, p2, p3, p4, p5, p6])
         refine' tkk 7 rfl (by kernel_rfl) (fun _ _ _ h => h) (.inl ⟨by rfl, ?_⟩) (by assumption) ?_; rotate_left
         ·(intro w hSw; (try dsimp only at hSw); (try simp only [p1, p2, p3]); go_simp; first | done | with_reducible rfl)
         (try simp only [Act.put, p1, p2, p3, p4, p5, p6])
         refine' tkk 8 rfl (by kernel_rfl) (fun _ _ _ h => h) (.inl ⟨by rfl, ?_⟩) (by assumption) ?_; rotate_left
         ·(intro w hSw; (try dsimp only at hSw); (try simp only [p1, p2, p3]); go_simp; first | done | with_reducible rfl)
         (try simp only [Act.put, p1, p2, p3, p4, p5, p6])
         refine' tkk 9 rfl (by kernel_rfl) (fun _ _ _ h => h) (.inl ⟨by rfl, ?_⟩) (by assumption) ?_; rotate_left
         ·(intro w hSw; (try dsimp only at hSw); (try simp only [p1, p2, p3]); go_simp; first | done | with_reducible rfl)
         (try simp only [Act.put, p1, p2, p3, p4, p5, p6])
         refine' tkk 10 rfl (by kernel_rfl) (fun _ _ _ h => h) (.inl ⟨by rfl, ?_⟩) (by assumption) ?_; rotate_left
         ·(intro w hSw; (try dsimp only at hSw); (try simp only [p1, p2, p3]); go_simp; first | done | with_reducible rfl)
         (try simp only [Act.put, p1, p2, p3, p4, p5, p6])
         refine' tkk 11 rfl (by kernel_rfl) (fun _ _ _ h => h) (.inl ⟨by rfl, ?_⟩) (by assumption) ?_; rotate_left
         ·(intro w hSw; (try dsimp only at hSw); (try simp only [p1, p2, p3]); go_simp; first | done | with_reducible rfl)
         (try simp only [Act.put, p1, p2, p3, p4, p5, p6])
         refine' tkk 12 rfl (by kernel_rfl) (fun _ _ _ h => h) (.inl ⟨by rfl, ?_⟩) (by assumption) ?_; rotate_left
         ·(intro w hSw; (try dsimp only at hSw); (try simp only [p1, p2, p3]); go_simp; first | done | with_reducible rfl)
         (try simp only [Act.put, p1, p2, p3, p4, p5, p6])
         refine' tkk 13 rfl (by kernel_rfl) (fun _ _ _ h => h) (.inl ⟨by rfl, ?_⟩) (by assumption) ?_; rotate_left
         ·(intro w hSw; (try dsimp only at hSw); (try simp only [p1, p2, p3]); go_simp; first | done | with_reducible rfl)
         (try simp only [Act.put, p1, p2, p3, p4, p5, p6])
         refine' tkk 14 rfl (by kernel_rfl) (fun _ _ _ h => h) (.inl ⟨by rfl, ?_⟩) (by assumption) ?_; rotate_left
         ·(intro w hSw; (try dsimp only at hSw); (try simp only [p1, p2, p3]); go_simp; first | done | with_reducible rfl)
         (try simp only [Act.put, p1, p2, p3, p4, p5, p6])
         refine' tkk 15 rfl (by kernel_rfl) (fun _ _ _ h => h) (.inl ⟨by rfl, ?_⟩) (by assumption) ?_; rotate_left
         ·(intro w hSw; (try dsimp only at hSw); (try simp only [p1, p2, p3]); go_simp; first | done | with_reducible rfl)
         (try simp only [Act.put, p1, p2, p3, p4, p5, p6])
         refine' tkk 16 rfl (by kernel_rfl) (fun _ _ _ h => h) (.inl ⟨by rfl, ?_⟩) (by assumption) ?_; rotate_left
         ·(intro w hSw; (try dsimp only at hSw); (try simp only [p1, p2, p3]); go_simp; first | done | with_reducible rfl)
         (try simp only [Act.put, p1, p2, p3, p4, p5, p6])
         refine' tkk 17 rfl (by kernel_rfl) (fun _ _ _ h => h) (.inl ⟨by rfl, ?_⟩) (by assumption) ?_; rotate_left
         ·(intro w hSw; (try dsimp only at hSw); (try simp only [p1, p2, p3]); go_simp; first | done | with_reducible rfl)
         (try simp only [Act.put, p1, p2, p3, p4, p5, p6])
         refine' tkk 18 rfl (by kernel_rfl) (fun _ _ _ h => h) (.inl ⟨by rfl, ?_⟩) (by assumption) ?_; rotate_left
         ·(intro w hSw; (try dsimp only at hSw); (try simp only [p1, p2, p3]); go_simp; first | done | with_reducible rfl)
         (try simp only [Act.put, p1, p2, p3, p4, p5, p6])
         refine' tkk 19 rfl (by kernel_rfl) (fun _ _ _ h => h) (.inl ⟨by rfl, ?_⟩) (by assumption) ?_; rotate_left
         ·(intro w hSw; (try dsimp only at hSw); (try simp only [p1, p2, p3]); go_simp; first | done | with_reducible rfl)
         (try simp only [Act.put, p1, p2, p3, p4, p5, p6])
         refine' tkk 20 rfl (by kernel_rfl) (fun _ _ _ h => h) (.inl ⟨by rfl, ?_⟩) (by assumption) ?_; rotate_left
         ·(intro w hSw; (try dsimp only at hSw); (try simp only [p1, p2, p3]); go_simp; first | done | with_reducible rfl)
         (try simp only [Act.put, p1, p2, p3, p4, p5, p6])
         refine' tkk 21 rfl (by kernel_rfl) (fun _ _ _ h => h) (.inl ⟨by rfl, ?_⟩) (by assumption) ?_; rotate_left
         ·(intro w hSw; (try dsimp only at hSw); (try simp only [p1, p2, p3]); go_simp; first | done | with_reducible rfl)
         (try simp only [Act.put, p1, p2, p3, p4, p5, p6])
         refine wpAnyH_done (by kernel_rfl) ?_ _
         have HF := Lib.hid (Kp.trans HK2.out (Kp.drew (Kp.refl wr)))
         (try clear HS)
         go_wp2
         go_roundw
         case rel => exact ⟨k + 1, by omega, by rw [HSC.out], by first | rfl | go_num, HF⟩
         case measure => simp [intOf]; omega
      ·have HSC : Hid (Rv.scan (fun i => (dnV n ord j)[i]?.getD false) (spF us) (k + 1) = sc) := Lib.hid hsc
       clear hsc hcell hb hgv hwr f8 hbr hss
       have HS := Lib.hid (show ∀ w', Kp wr w' → (w'.cell? ⟨g2, k, none⟩ = some (.bool true)) ∧ Kp wr w' from fun w' hk => ⟨(Below.cell hk (p := ⟨g2, _, none⟩) hg2).trans y0, hk⟩)
       go_wp2_with fail
       refine wp_region_held_drew (S := fun w' => (w'.cell? ⟨g2, k, none⟩ = some (.bool true)) ∧ Kp wr w') (by kernel_rfl) (HS.out _ (Kp.drew (Kp.refl wr))) (fun hHeld => ?_)
       refine' tkk 0 rfl (by kernel_rfl) (fun _ _ _ h => h) (.inl ⟨by rfl, ?_⟩) (by assumption) ?_; rotate_left
       ·(intro w hSw; (try dsimp only at hSw); (try simp only [p1, p2, p3]); go_simp; first | done | with_reducible rfl)
       (try simp only [Act.put, p1, p2, p3, p4, p5, p6])
       refine' tkk 1 rfl (by kernel_rfl) (fun _ _ _ h => h) (.inl ⟨by rfl, ?_⟩) (by assumption) ?_; rotate_left
       ·(intro w hSw; (try dsimp only at hSw); (try simp only [p1, p2, p3]); go_simp; first | done | with_reducible rfl)
       (try simp only [Act.put, p1, p2, p3, p4, p5, p6])
       refine' tkk 2 rfl (by kernel_rfl) (fun _ _ _ h => h) (.inl ⟨by rfl, ?_⟩) (by assumption) ?_; rotate_left
       ·(intro w hSw; (try dsimp only at hSw); (try simp only [p1, p2, p3]); go_simp; first | done | with_reducible rfl)
       (try simp only [Act.put, p1, p2, p3, p4, p5, p6])
       refine' tkk 3 rfl (by kernel_rfl) (fun _ _ _ h => h) (.inl ⟨by rfl, ?_⟩) (by assumption) ?_; rotate_left
       ·(intro w hSw; (try dsimp only at hSw); (try simp only [p1, p2, p3]); go_simp; first | done | with_reducible rfl)
       (try simp only [Act.put, p1, p2, p3, p4, p5, p6])
       refine' tkk 4 rfl (by kernel_rfl) (fun _ _ _ h => h) (.inl ⟨by rfl, ?_⟩) (by assumption) ?_; rotate_left
       ·(intro w hSw; (try dsimp only at hSw); (try simp only [p1, p2, p3]); go_simp; first | done | with_reducible rfl)
       (try simp only [Act.put, p1, p2, p3, p4, p5, p6])
       refine' tkk 5 rfl (by kernel_rfl) (fun _ _ _ h => h) (.inl ⟨by rfl, ?_⟩) (by assumption) ?_; rotate_left
       ·(intro w hSw; (try dsimp only at hSw); (try simp only [p1, p2, p3]); go_simp; first | done | with_reducible rfl)
       (try simp only [Act.put, p1, p2, p3, p4, p5, p6])
       refine tkk (v := undef) 6 rfl (by kernel_rfl) (fun _ _ _ h => h) (.inr ⟨by rfl, rfl⟩) (by assumption) ?_
       (try simp only [Act.put, p1, p2, p3, p4, p5, p6])
       refine tkk (v := undef) 7 rfl (by kernel_rfl) (fun _ _ _ h => h) (.inr ⟨by rfl, rfl⟩) (by assumption) ?_
       (try simp only [Act.put, p1, p2, p3, p4, p5, p6])
       refine tkk (v := undef) 8 rfl (by kernel_rfl) (fun _ _ _ h => h) (.inr ⟨by rfl, rfl⟩) (by assumption) ?_
       (try simp only [Act.put, p1, p2, p3, p4, p5, p6])
       refine tkk (v := undef) 9 rfl (by kernel_rfl) (fun _ _ _ h => h) (.inr ⟨by rfl, rfl⟩) (by assumption) ?_
       (try simp only [Act.put, p1, p2, p3, p4, p5, p6])
       refine tkk (v := undef) 10 rfl (by kernel_rfl) (fun _ _ _ h => h) (.inr ⟨by rfl, rfl⟩) (by assumption) ?_
       (try simp only [Act.put, p1, p2, p3, p4, p5, p6])
       refine tkk (v := undef) 11 rfl (by kernel_rfl) (fun _ _ _ h => h) (.inr ⟨by rfl, rfl⟩) (by assumption) ?_
       (try simp only [Act.put, p1, p2, p3, p4, p5, p6])
       refine tkk (v := undef) 12 rfl (by kernel_rfl) (fun _ _ _ h => h) (.inr ⟨by rfl, rfl⟩) (by assumption) ?_
       (try simp only [Act.put, p1, p2, p3, p4, p5, p6])
       refine tkk (v := undef) 13 rfl (by kernel_rfl) (fun _ _ _ h => h) (.inr ⟨by rfl, rfl⟩) (by assumption) ?_
       (try simp only [Act.put, p1, p2, p3, p4, p5, p6])
       refine tkk (v := undef) 14 rfl (by kernel_rfl) (fun _ _ _ h => h) (.inr ⟨by rfl, rfl⟩) (by assumption) ?_
       (try simp only [Act.put, p1, p2, p3, p4, p5, p6])
       refine tkk (v := undef) 15 rfl (by kernel_rfl) (fun _ _ _ h => h) (.inr ⟨by rfl, rfl⟩) (by assumption) ?_
       (try simp only [Act.put, p1, p2, p3, p4, p5, p6])
       refine tkk (v := undef) 16 rfl (by kernel_rfl) (fun _ _ _ h => h) (.inr ⟨by rfl, rfl⟩) (by assumption) ?_
       (try simp only [Act.put, p1, p2, p3, p4, p5, p6])
       refine tkk (v := undef) 17 rfl (by kernel_rfl) (fun _ _ _ h => h) (.inr ⟨by rfl, rfl⟩) (by assumption) ?_
       (try simp only [Act.put, p1, p2, p3, p4, p5, p6])
       refine tkk (v := undef) 18 rfl (by kernel_rfl) (fun _ _ _ h => h) (.inr ⟨by rfl, rfl⟩) (by assumption) ?_
       (try simp only [Act.put, p1, p2, p3, p4, p5, p6])
       refine tkk (v := undef) 19 rfl (by kernel_rfl) (fun _ _ _ h => h) (.inr ⟨by rfl, rfl⟩) (by assumption) ?_
       (try simp only [Act.put, p1, p2, p3, p4, p5, p6])
       refine tkk (v := undef) 20 rfl (by kernel_rfl) (fun _ _ _ h => h) (.inr ⟨by rfl, rfl⟩) (by assumption) ?_
       (try simp only [Act.put, p1, p2, p3, p4, p5, p6])
       refine' tkk 21 rfl (by kernel_rfl) (fun _ _ _ h => h) (.inl ⟨by rfl, ?_⟩) (by assumption) ?_; rotate_left
       ·(intro w hSw; (try dsimp only at hSw); (try simp only [p1, p2, p3]); go_simp; first | done | with_reducible rfl)
       (try simp only [Act.put, p1, p2, p3, p4, p5, p6])
       refine wpAnyH_done (by kernel_rfl) ?_ _
       have HF := Lib.hid (Kp.trans HK2.out (Kp.drew (Kp.refl wr)))
       (try clear HS)
       go_wp2
       go_roundw
       case rel => exact ⟨k + 1, by omega, by rw [HSC.out], by first | rfl | go_num, HF⟩
       case measure => simp [intOf]; omega
     ·obtain rfl : n = k := by omega
      obtain ⟨ho1, ho2, -⟩ := HORD.out j hlt
      rw [HLN.out] at ho1 ho2
      have hnx := HNX.out j hlt
      have hdn := HDNX.out j hlt
      obtain ⟨hlrs, hltk⟩ := HLV.out j hj
      have htl := HTL.out j hj
      generalize Rv.scan (fun i => (dnV n ord j)[i]?.getD false) (spF us) n = sc at *
      subst ho1
      generalize ord[j]?.getD 0 = a at *
      have him : a < m := by have := HPM.out; omega
      have hip : a < p := by have := HPM.out; omega
      obtain ⟨b, o, rfl, hb, hcell⟩ := HU.out.2 (by omega)
      obtain ⟨b', o', rfl, hb', hcell'⟩ := HBS.out.2 (by omega)
      obtain ⟨b2, o2, rfl, hb2, hcell2⟩ := HQ.out.2 (by omega)
      obtain ⟨m5, m6⟩ := HROOM.out a ho2
      have hlm := HLR.out a (by rw [HLN.out]; exact ho2)
      have hrm : rmR us bs qs a = roomV (bs[a]?.getD false) (us[a]?.getD U0) (qs[a]?.getD 0) := rfl
      have hspf : spF us a = (us[a]?.getD U0).spin := rfl
      have HSPC := Lib.hid (show ∀ w', Below g1 V w' → w'.cell? ⟨b, o + a * 9 + 7, none⟩ = some (.int .i64 (us[a]?.getD U0).spin) from fun w' hw9 => by
       obtain ⟨_, _, _, ⟨_, _, _, _, _, _, _, f8, _⟩, _⟩ := (hcell a ho2).below hb (HV.out.1.trans (hw9.mono (Nat.le_of_lt HV.out.2.2.1)))
       exact f8)
      obtain ⟨i1, i2, i3, L1, l1, l2, L2, l3, l4, i4, i5⟩ := hI.out
      have y1 := (Below.cell HK2.out (p := ⟨g2, a, none⟩) (Blk.lt i3)).trans (i3.cell (i := a) (by rw [dnV_len]; exact ho2))
      have y2 : wr.frozen? ⟨g2, a, none⟩ = false := (Below.frozen HK2.out (p := ⟨g2, a, none⟩) (Blk.lt i3)).trans (Blk.frozen i3 a)
      have h3 : BlRow (wr.setCell ⟨g2, a, none⟩ (.bool true)) g2 ((dnV n ord j).set a true) := BlRow.set (Kp.blk HK2.out i3) a true
      have h1 : Below g1 V (wr.setCell ⟨g2, a, none⟩ (.bool true)) := (hgv.setCell (p := ⟨g2, a, none⟩) (by have := HGG.out; dsimp only; omega) _)
      have h2 : QRow (wr.setCell ⟨g2, a, none⟩ (.bool true)) g1 n (FiS us bs qs need ord j).tk := (i2.below HK2.out).setQ (Kp.blk HK2.out i3) (BlRow.noInt _) (by have := HGG.out; omega) a _
      have h4 : Blk (wr.setCell ⟨g2, a, none⟩ (.bool true)) g3 31 #[.bool (decide ((FiS us bs qs need ord j).rest.num < 0)), .slice L1 l1 l2, .bool false, .slice L2 l3 l4] := (Kp.blk HK2.out i4).far (p := ⟨g2, a, none⟩) (by have := HGG.out; dsimp only; omega) _
      have h5 : RQ (wr.setCell ⟨g2, a, none⟩ (.bool true)) (FiS us bs qs need ord j).rest L1 l1 l2 L2 l3 l4 := (i5.below HK2.out).setQ (Kp.blk HK2.out i3) (BlRow.noInt _) a _
      have H3 := Lib.hid (And.intro h1 (And.intro h2 (And.intro h3 (And.intro h4 h5))))
      have ha1 : (0 : Int) ≤ (a : Int) := by omega
      have ha2 : (a : Int) < (n : Int) := by omega
      have ha3 : (a : Int) < (m : Int) := by omega
      have ha4 : (a : Int) < (p : Int) := by omega
      clear h1 h2 h3 h4 h5 i1 i2 i3 i4 i5 hgv hwr hI HORD HDNX HNX HLV HTL HLR HROOM
      go_wp2_with fail
      generalize hw3 : wr.setCell ⟨g2, a, none⟩ (.bool true) = w3 at *
      obtain ⟨h1, h2, h3, h4, h5⟩ := H3.out
      have hwr3 : Below w.heap.size w w3 := HV.out.1.trans (h1.mono (Nat.le_of_lt HV.out.2.2.1))
      have hun := (hcell a ho2).below hb hwr3
      have hon := (Below.cell hwr3 (p := ⟨b', o' + a, none⟩) hb').trans (hcell' a him)
      obtain ⟨an, aA, ak, ac, an', aA', ak', ac', z1, z2, z3, z4, hq⟩ := hcell2 a hip
      have z1 := (Below.cell hwr3 (p := ⟨b2, o2 + a * 4, none⟩) hb2).trans z1
      have z2 := (Below.cell hwr3 (p := ⟨b2, o2 + a * 4 + 1, none⟩) hb2).trans z2
      have z3 := (Below.cell hwr3 (p := ⟨b2, o2 + a * 4 + 2, none⟩) hb2).trans z3
      have z4 := (Below.cell hwr3 (p := ⟨b2, o2 + a * 4 + 3, none⟩) hb2).trans z4
      have hq := hq.below hwr3
      have hbr : b < w3.heap.size := Nat.lt_of_lt_of_le hb (Below.size hwr3)
      have hbr' : b' < w3.heap.size := Nat.lt_of_lt_of_le hb' (Below.size hwr3)
      have hbr2 : b2 < w3.heap.size := Nat.lt_of_lt_of_le hb2 (Below.size hwr3)
      obtain ⟨u0, u1, u2, u3, -, -, -, -⟩ := h4.four
      have ult := h4.lt
      have HG1 := Lib.hid (show g1 ≤ w3.heap.size from Nat.le_trans (Nat.le_of_lt HGV.out) (Below.size h1))
      have HAN := Lib.hid ho2
      have hmmE : (((FiS us bs qs need ord j).tk.set a (if rmR us bs qs a < (FiS us bs qs need ord j).rest then rmR us bs qs a else (FiS us bs qs need ord j).rest))[a]?.getD 0) = (if rmR us bs qs a < (FiS us bs qs need ord j).rest then rmR us bs qs a else (FiS us bs qs need ord j).rest) := by
       rw [List.getElem?_set_self (by rw [htl]; exact ho2)]; rfl
      have hml : Lv (1 + j) (if rmR us bs qs a < (FiS us bs qs need ord j).rest then rmR us bs qs a else (FiS us bs qs need ord j).rest) := by
       split
       ·exact hlm.mono (by omega)
       ·exact hlrs
      have ht1 : (FiS us bs qs need ord (j + 1)).tk = (FiS us bs qs need ord j).tk.set a (if rmR us bs qs a < (FiS us bs qs need ord j).rest then rmR us bs qs a else (FiS us bs qs need ord j).rest) := by rw [hnx]; rfl
      have ht2 : (FiS us bs qs need ord (j + 1)).rest = (FiS us bs qs need ord j).rest - (if rmR us bs qs a < (FiS us bs qs need ord j).rest then rmR us bs qs a else (FiS us bs qs need ord j).rest) := by rw [hnx]; rfl
      have ht3 : (FiS us bs qs need ord (j + 1)).price = if 0 < (if rmR us bs qs a < (FiS us bs qs need ord j).rest then rmR us bs qs a else (FiS us bs qs need ord j).rest) then spF us a else (FiS us bs qs need ord j).price := by rw [hnx]; rfl
      rw [hspf] at ht3
      have HQ3 := Lib.hid h2
      have HB3 := Lib.hid (And.intro h1 (And.intro h3 (And.intro h4 h5)))
      generalize (FiS us bs qs need ord j).tk = tk at *
      generalize (FiS us bs qs need ord j).rest = rs at *
      generalize (FiS us bs qs need ord j).price = pj at *
      rw [hrm] at hmmE hml ht1 ht2 ht3 hlm
      clear hrm hspf hnx hltk htl
      generalize bs[a]?.getD false = bk at *
      generalize us[a]?.getD U0 = un at *
      generalize qs[a]?.getD 0 = q at *
      obtain ⟨bus, mn, st, up, dnn, start, idle, spin, on⟩ := un
      obtain ⟨A', n', c', ⟨f1, f2, f3, f4, f5, f6, f7, f8, f9⟩, hs, hn'⟩ := hun
      simp only at f1 f2 f3 f4 f5 f6 f7 f8 f9 hs
      have TR := Lib.hid (fun (W : World) (hW : Kp w3 W) => rroom30_any 0 (by omega) bk bus mn up dnn start idle spin on A' aA aA' n' c' ak ac ak' ac' an an' st q W (hs.below hW) hn' (hq.below hW) m5 m6)
      generalize roomV bk ⟨bus, mn, st, up, dnn, start, idle, spin, on⟩ q = rv at *
      have TM := Lib.hid (fun (W : World) (hW : Kp w3 W) (R R' : Option Addr) (k1 d1 k1' d1' : Nat) (h : RQ W rv R k1 d1 R' k1' d1') => rminq_s (three16 (k := 1 + j) (by have := HPM.out; omega)) (decide (rs.num < 0)) false (decide (rv.num < 0)) false L1 L2 R R' l1 l2 l3 l4 k1 d1 k1' d1' rs rv W ((h5.below hW).qk hlrs (by have := HPM.out; omega)).qs (h.qk (hlm.mono (by omega)) (by have := HPM.out; omega)).qs)
      generalize (if rv < rs then rv else rs) = mm at *
      generalize hrn : rs - mm = rn at *
      have HRN := Lib.hid hrn
      have HMM := Lib.hid hmmE
      have HML := Lib.hid hml
      have HRL := Lib.hid hlrs
      have HTK := Lib.hid ht1
      have HRS := Lib.hid ht2
      have HPRI := Lib.hid (And.intro (fun h : 0 < mm => (by rw [ht3, if_pos h] : (FiS us bs qs need ord (j + 1)).price = spin)) (fun h : ¬ 0 < mm => (by rw [ht3, if_neg h] : (FiS us bs qs need ord (j + 1)).price = pj)))
      generalize hdnE : (dnV n ord j).set a true = dn at *
      have HDN := Lib.hid hdn
      have HS16 := Lib.hid (show ∀ w', Kp w3 w' → (w'.cell? ⟨g3, 0, none⟩ = some (.bool (decide (rs.num < 0))) ∧ w'.cell? ⟨g3, 1, none⟩ = some (.slice L1 l1 l2) ∧ w'.cell? ⟨g3, 2, none⟩ = some (.bool false) ∧ w'.cell? ⟨g3, 3, none⟩ = some (.slice L2 l3 l4) ∧ w'.cell? ⟨b, o + a * 9, none⟩ = some (.int .i64 bus) ∧ w'.cell? ⟨b, o + a * 9 + 1, none⟩ = some (.int .i64 mn) ∧ w'.cell? ⟨b, o + a * 9 + 2, none⟩ = some (.slice A' n' c') ∧ w'.cell? ⟨b, o + a * 9 + 3, none⟩ = some (.int .i64 up) ∧ w'.cell? ⟨b, o + a * 9 + 4, none⟩ = some (.int .i64 dnn) ∧ w'.cell? ⟨b, o + a * 9 + 5, none⟩ = some (.int .i64 start) ∧ w'.cell? ⟨b, o + a * 9 + 6, none⟩ = some (.int .i64 idle) ∧ w'.cell? ⟨b, o + a * 9 + 7, none⟩ = some (.int .i64 spin) ∧ w'.cell? ⟨b, o + a * 9 + 8, none⟩ = some (.int .i64 on) ∧ w'.cell? ⟨b', o' + a, none⟩ = some (.bool bk) ∧ w'.cell? ⟨b2, o2 + a * 4, none⟩ = some (.bool an) ∧ w'.cell? ⟨b2, o2 + a * 4 + 1, none⟩ = some (.slice aA ak ac) ∧ w'.cell? ⟨b2, o2 + a * 4 + 2, none⟩ = some (.bool an') ∧ w'.cell? ⟨b2, o2 + a * 4 + 3, none⟩ = some (.slice aA' ak' ac')) ∧ Kp w3 w' from fun w' hk => ⟨⟨(Below.cell hk (p := ⟨g3, _, none⟩) ult).trans u0, (Below.cell hk (p := ⟨g3, _, none⟩) ult).trans u1, (Below.cell hk (p := ⟨g3, _, none⟩) ult).trans u2, (Below.cell hk (p := ⟨g3, _, none⟩) ult).trans u3, (Below.cell hk (p := ⟨b, _, none⟩) hbr).trans f1, (Below.cell hk (p := ⟨b, _, none⟩) hbr).trans f2, (Below.cell hk (p := ⟨b, _, none⟩) hbr).trans f3, (Below.cell hk (p := ⟨b, _, none⟩) hbr).trans f4, (Below.cell hk (p := ⟨b, _, none⟩) hbr).trans f5, (Below.cell hk (p := ⟨b, _, none⟩) hbr).trans f6, (Below.cell hk (p := ⟨b, _, none⟩) hbr).trans f7, (Below.cell hk (p := ⟨b, _, none⟩) hbr).trans f8, (Below.cell hk (p := ⟨b, _, none⟩) hbr).trans f9, (Below.cell hk (p := ⟨b', _, none⟩) hbr').trans hon, (Below.cell hk (p := ⟨b2, _, none⟩) hbr2).trans z1, (Below.cell hk (p := ⟨b2, _, none⟩) hbr2).trans z2, (Below.cell hk (p := ⟨b2, _, none⟩) hbr2).trans z3, (Below.cell hk (p := ⟨b2, _, none⟩) hbr2).trans z4⟩, hk⟩)
      have HS3 := HB3
      have i1 : IntKind.i64.wrap ((j : Int) + 1) = ((j + 1 : Nat) : Int) := IntWalk.i64_in _ (by have := HPM.out; omega)
      clear hw3 h1 h2 h3 h4 h5 hwr3 hon z1 z2 z3 z4 hq hbr hbr' hbr2 u0 u1 u2 u3 ult hmmE hml ht1 ht2 ht3 hrn hdnE hdn hlm hlrs f1 f2 f3 f4 f5 f6 f7 f8 f9 hs hn' hcell hcell' hcell2 hb hb' hb2 y1 y2 H3 HK2 m5 m6
      refine wp_region_front 18 1 _ (fun w' => (w'.cell? ⟨g3, 0, none⟩ = some (.bool (decide (rs.num < 0))) ∧ w'.cell? ⟨g3, 1, none⟩ = some (.slice L1 l1 l2) ∧ w'.cell? ⟨g3, 2, none⟩ = some (.bool false) ∧ w'.cell? ⟨g3, 3, none⟩ = some (.slice L2 l3 l4) ∧ w'.cell? ⟨b, o + a * 9, none⟩ = some (.int .i64 bus) ∧ w'.cell? ⟨b, o + a * 9 + 1, none⟩ = some (.int .i64 mn) ∧ w'.cell? ⟨b, o + a * 9 + 2, none⟩ = some (.slice A' n' c') ∧ w'.cell? ⟨b, o + a * 9 + 3, none⟩ = some (.int .i64 up) ∧ w'.cell? ⟨b, o + a * 9 + 4, none⟩ = some (.int .i64 dnn) ∧ w'.cell? ⟨b, o + a * 9 + 5, none⟩ = some (.int .i64 start) ∧ w'.cell? ⟨b, o + a * 9 + 6, none⟩ = some (.int .i64 idle) ∧ w'.cell? ⟨b, o + a * 9 + 7, none⟩ = some (.int .i64 spin) ∧ w'.cell? ⟨b, o + a * 9 + 8, none⟩ = some (.int .i64 on) ∧ w'.cell? ⟨b', o' + a, none⟩ = some (.bool bk) ∧ w'.cell? ⟨b2, o2 + a * 4, none⟩ = some (.bool an) ∧ w'.cell? ⟨b2, o2 + a * 4 + 1, none⟩ = some (.slice aA ak ac) ∧ w'.cell? ⟨b2, o2 + a * 4 + 2, none⟩ = some (.bool an') ∧ w'.cell? ⟨b2, o2 + a * 4 + 3, none⟩ = some (.slice aA' ak' ac')) ∧ Kp w3 w') (by kernel_rfl) (by kernel_rfl) rfl (HS16.out _ (Kp.drew (Kp.refl w3))) (fun hHeld => ?_)
      simp only [List.toList_toArray, List.take_succ_cons, List.take_zero]
      refine' tkk 0 rfl (by kernel_rfl) (fun _ _ _ h => h) (.inl ⟨by rfl, ?_⟩) (by assumption) ?_; rotate_left
      ·(intro w hSw; (try dsimp only at hSw); (try simp only [p1, p2, p3]); go_simp; first | done | with_reducible rfl)
      (try simp only [Act.put, p1, p2, p3, p4, p5, p6])
      refine' tkk 1 rfl (by kernel_rfl) (fun _ _ _ h => h) (.inl ⟨by rfl, ?_⟩) (by assumption) ?_; rotate_left
      ·(intro w hSw; (try dsimp only at hSw); (try simp only [p1, p2, p3]); go_simp; first | done | with_reducible rfl)
      (try simp only [Act.put, p1, p2, p3, p4, p5, p6])
      refine' tkk 2 rfl (by kernel_rfl) (fun _ _ _ h => h) (.inl ⟨by rfl, ?_⟩) (by assumption) ?_; rotate_left
      ·(intro w hSw; (try dsimp only at hSw); (try simp only [p1, p2, p3]); go_simp; first | done | with_reducible rfl)
      (try simp only [Act.put, p1, p2, p3, p4, p5, p6])
      refine' tkk 3 rfl (by kernel_rfl) (fun _ _ _ h => h) (.inl ⟨by rfl, ?_⟩) (by assumption) ?_; rotate_left
      ·(intro w hSw; (try dsimp only at hSw); (try simp only [p1, p2, p3]); go_simp; first | done | with_reducible rfl)
      (try simp only [Act.put, p1, p2, p3, p4, p5, p6])
      refine' tkk 4 rfl (by kernel_rfl) (fun _ _ _ h => h) (.inl ⟨by rfl, ?_⟩) (by assumption) ?_; rotate_left
      ·(intro w hSw; (try dsimp only at hSw); (try simp only [p1, p2, p3]); go_simp; first | done | with_reducible rfl)
      (try simp only [Act.put, p1, p2, p3, p4, p5, p6])
      refine' tkk 5 rfl (by kernel_rfl) (fun _ _ _ h => h) (.inl ⟨by rfl, ?_⟩) (by assumption) ?_; rotate_left
      ·(intro w hSw; (try dsimp only at hSw); (try simp only [p1, p2, p3]); go_simp; first | done | with_reducible rfl)
      (try simp only [Act.put, p1, p2, p3, p4, p5, p6])
      refine' tkk 6 rfl (by kernel_rfl) (fun _ _ _ h => h) (.inl ⟨by rfl, ?_⟩) (by assumption) ?_; rotate_left
      ·(intro w hSw; (try dsimp only at hSw); (try simp only [p1, p2, p3]); go_simp; first | done | with_reducible rfl)
      (try simp only [Act.put, p1, p2, p3, p4, p5, p6])
      refine' tkk 7 rfl (by kernel_rfl) (fun _ _ _ h => h) (.inl ⟨by rfl, ?_⟩) (by assumption) ?_; rotate_left
      ·(intro w hSw; (try dsimp only at hSw); (try simp only [p1, p2, p3]); go_simp; first | done | with_reducible rfl)
      (try simp only [Act.put, p1, p2, p3, p4, p5, p6])
      refine' tkk 8 rfl (by kernel_rfl) (fun _ _ _ h => h) (.inl ⟨by rfl, ?_⟩) (by assumption) ?_; rotate_left
      ·(intro w hSw; (try dsimp only at hSw); (try simp only [p1, p2, p3]); go_simp; first | done | with_reducible rfl)
      (try simp only [Act.put, p1, p2, p3, p4, p5, p6])
      refine' tkk 9 rfl (by kernel_rfl) (fun _ _ _ h => h) (.inl ⟨by rfl, ?_⟩) (by assumption) ?_; rotate_left
      ·(intro w hSw; (try dsimp only at hSw); (try simp only [p1, p2, p3]); go_simp; first | done | with_reducible rfl)
      (try simp only [Act.put, p1, p2, p3, p4, p5, p6])
      refine' tkk 10 rfl (by kernel_rfl) (fun _ _ _ h => h) (.inl ⟨by rfl, ?_⟩) (by assumption) ?_; rotate_left
      ·(intro w hSw; (try dsimp only at hSw); (try simp only [p1, p2, p3]); go_simp; first | done | with_reducible rfl)
      (try simp only [Act.put, p1, p2, p3, p4, p5, p6])
      refine' tkk 11 rfl (by kernel_rfl) (fun _ _ _ h => h) (.inl ⟨by rfl, ?_⟩) (by assumption) ?_; rotate_left
      ·(intro w hSw; (try dsimp only at hSw); (try simp only [p1, p2, p3]); go_simp; first | done | with_reducible rfl)
      (try simp only [Act.put, p1, p2, p3, p4, p5, p6])
      refine' tkk 12 rfl (by kernel_rfl) (fun _ _ _ h => h) (.inl ⟨by rfl, ?_⟩) (by assumption) ?_; rotate_left
      ·(intro w hSw; (try dsimp only at hSw); (try simp only [p1, p2, p3]); go_simp; first | done | with_reducible rfl)
      (try simp only [Act.put, p1, p2, p3, p4, p5, p6])
      refine' tkk 13 rfl (by kernel_rfl) (fun _ _ _ h => h) (.inl ⟨by rfl, ?_⟩) (by assumption) ?_; rotate_left
      ·(intro w hSw; (try dsimp only at hSw); (try simp only [p1, p2, p3]); go_simp; first | done | with_reducible rfl)
      (try simp only [Act.put, p1, p2, p3, p4, p5, p6])
      refine' tkk 14 rfl (by kernel_rfl) (fun _ _ _ h => h) (.inl ⟨by rfl, ?_⟩) (by assumption) ?_; rotate_left
      ·(intro w hSw; (try dsimp only at hSw); (try simp only [p1, p2, p3]); go_simp; first | done | with_reducible rfl)
      (try simp only [Act.put, p1, p2, p3, p4, p5, p6])
      refine wpAnyH_ready (rs := [15]) (by kernel_rfl) (by simp) ?_
      refine AllReadyH.cons rfl (fun K hK => ?_) AllReadyH.nil
      (try simp only [p1, p2, p3])
      go_simp
      have hk := And.right ‹_ ∧ Kp w3 _›
      refine (TR.out _ hk).mono ?_
      rintro e v4 ⟨P1, p1, p2, P2, p3, p4, rfl, hk9, hj9, hW9, hX9, hF9, hG9, hbx⟩
      have hp := Kp.trans hk hbx
      have r4 : RQ v4 (rv) P1 p1 p2 P2 p3 p4 := ⟨hk9, hj9, hW9, hX9⟩
      clear hk hbx hk9 hj9 hW9 hX9 hF9 hG9
      (try (go_wp2_with fail))
      refine hK.out _ _ ?k2 (fun hHeld2 => ?n2)
      case k2 => ((try dsimp only); first | (with_reducible refine HS16.out _ ?_; with_reducible assumption) | (with_reducible refine HS16.out _ (Kp.drew ?_); with_reducible assumption) | (with_reducible refine' HS16.out _ (Kp.drew (And.right ?_)); rotate_left; with_reducible assumption))
      clear hK K
      (try simp only [Act.put, p1, p2, p3, p4, p5, p6])
      refine wpAnyH_ready (rs := [16]) (by kernel_rfl) (by simp) ?_
      refine AllReadyH.cons rfl (fun K hK => ?_) AllReadyH.nil
      (try simp only [p1, p2, p3])
      go_simp
      have hk := And.right ‹_ ∧ Kp w3 _›
      refine (TM.out _ hk _ _ _ _ _ _ r4).mono ?_
      rintro e v5 ⟨X1, x5, x6, X2, x7, x8, rfl, hk9, hj9, hW9, hX9, hF9, hG9, hbx⟩
      have hp := Kp.trans hk hbx
      have r5 : RQ v5 (mm) X1 x5 x6 X2 x7 x8 := ⟨hk9, hj9, hW9, hX9⟩
      clear r4
      clear hk hbx hk9 hj9 hW9 hX9 hF9 hG9
      (try (go_wp2_with fail))
      refine hK.out _ _ ?k3 (fun hHeld3 => ?n3)
      case k3 => ((try dsimp only); first | (with_reducible refine HS16.out _ ?_; with_reducible assumption) | (with_reducible refine HS16.out _ (Kp.drew ?_); with_reducible assumption) | (with_reducible refine' HS16.out _ (Kp.drew (And.right ?_)); rotate_left; with_reducible assumption))
      clear hK K
      (try simp only [Act.put, p1, p2, p3, p4, p5, p6])
      refine' tkk 17 rfl (by kernel_rfl) (fun _ _ _ h => h) (.inl ⟨by rfl, ?_⟩) (by assumption) ?_; rotate_left
      ·(intro w hSw; (try dsimp only at hSw); (try simp only [p1, p2, p3]); go_simp; first | done | with_reducible rfl)
      (try simp only [Act.put, p1, p2, p3, p4, p5, p6])
      refine wpAnyH_done (by kernel_rfl) ?_ _
      unfold Qfr
      dsimp only
      obtain ⟨_, _, _, _, _, _, i0, i2, i3, i8, i4, i5, i6, i7, -⟩ := (QRow.below HQ3.out hp).cells (j := a) HAN.out
      have hga : (a : Int) < (n : Int) := by have := HAN.out; omega
      have hg0 : (0 : Int) ≤ (a : Int) := by omega
      refine wpAny_ready (rs := [18]) (by kernel_rfl) (by simp) ?_
      refine AllReady.cons rfl (fun K hK => ?_) AllReady.nil
      (try simp only [List.getElem_toArray, List.getElem_cons_zero, List.getElem_cons_succ])
      go_simp
      refine hK _ _ ?_
      clear hK K
      (try simp only [Act.put, List.getElem_toArray, List.getElem_cons_zero, List.getElem_cons_succ, List.setIfInBounds_toArray, List.set_cons_zero, List.set_cons_succ])
      refine wpAny_done (by kernel_rfl) ?_ _
      have e8 : (((v5.setCell ⟨g1, a * 4, none⟩ (.bool (decide (mm.num < 0)))).setCell ⟨g1, a * 4 + 1, none⟩ (.slice X1 x5 x6)).setCell ⟨g1, a * 4 + 2, none⟩ (.bool false)).setCell ⟨g1, a * 4 + 3, none⟩ (.slice X2 x7 x8) = qst v5 g1 (a * 4) (decide (mm.num < 0)) false X1 X2 x5 x6 x7 x8 := rfl
      rw [e8]
      have hfin : ∀ w', w' = qst v5 g1 (a * 4) (decide (mm.num < 0)) false X1 X2 x5 x6 x7 x8 → Below g1 V w' ∧ QRow w' g1 n (tk.set a mm) ∧ BlRow w' g2 dn ∧ Blk w' g3 31 #[.bool (decide (rs.num < 0)), .slice L1 l1 l2, .bool false, .slice L2 l3 l4] ∧ RQ w' rs L1 l1 l2 L2 l3 l4 ∧ RQ w' mm X1 x5 x6 X2 x7 x8 := by
       rintro w' rfl
       obtain ⟨h1, h2, h3, h4⟩ := HS3.out
       have hq := QRow.below HQ3.out hp
       obtain ⟨_, cs, hb5, hni5, -⟩ := hq
       exact ⟨below_qst (h1.trans (Below.mono hp HG1.out)) (Nat.le_refl _), (QRow.below HQ3.out hp).put HAN.out r5.1 r5.2.1 r5.2.2.1 r5.2.2.2, (Kp.blk hp h2).far4 (by have := HGG.out; omega), (Kp.blk hp h3).far4 (by have := HGG.out; omega), (h4.below hp).put4 hb5 hni5, r5.put4 hb5 hni5⟩
      have HF := Lib.hid (hfin _ rfl)
      clear hfin e8 hp r5 i0 i2 i3 i8 i4 i5 i6 i7 HQ3 HS3
      generalize qst v5 g1 (a * 4) (decide (mm.num < 0)) false X1 X2 x5 x6 x7 x8 = w6 at *
      (try go_wp2_with fail)
      obtain ⟨X1, x5, x6, X2, x7, x8, x0, x1, x2, x3, -, -, -, -, hk5, hk6, hW5, hW6⟩ := HF.out.2.1.cells HAN.out
      rw [HMM.out] at x0 hW5 hW6
      obtain ⟨u0, u1, u2, u3, -, -, -, -⟩ := HF.out.2.2.2.1.four
      have ult := HF.out.2.2.2.1.lt
      have hg1 : g1 < w6.heap.size := Nat.lt_of_lt_of_le HGV.out (Below.size HF.out.1)
      have TSU := Lib.hid (fun (W : World) (hW : Kp w6 W) => rsubq_s (Nat.le_trans (three16 (k := 1 + j) (by have := HPM.out; omega)) (by decide)) (decide (rs.num < 0)) false (decide (mm.num < 0)) false L1 L2 X1 X2 l1 l2 l3 l4 x5 x6 x7 x8 rs mm W ((HF.out.2.2.2.2.1.below hW).qk HRL.out (by have := HPM.out; omega)).qs ((RQ.below ⟨hk5, hk6, hW5, hW6⟩ hW).qk HML.out (by have := HPM.out; omega)).qs)
      rw [HRN.out] at TSU
      have HS17 := Lib.hid (show ∀ w', Kp w6 w' → (w'.cell? ⟨g3, 0, none⟩ = some (.bool (decide (rs.num < 0))) ∧ w'.cell? ⟨g3, 1, none⟩ = some (.slice L1 l1 l2) ∧ w'.cell? ⟨g3, 2, none⟩ = some (.bool false) ∧ w'.cell? ⟨g3, 3, none⟩ = some (.slice L2 l3 l4) ∧ w'.cell? ⟨g1, a * 4, none⟩ = some (.bool (decide (mm.num < 0))) ∧ w'.cell? ⟨g1, a * 4 + 1, none⟩ = some (.slice X1 x5 x6) ∧ w'.cell? ⟨g1, a * 4 + 2, none⟩ = some (.bool false) ∧ w'.cell? ⟨g1, a * 4 + 3, none⟩ = some (.slice X2 x7 x8)) ∧ Kp w6 w' from fun w' hk => ⟨⟨(Below.cell hk (p := ⟨g3, _, none⟩) ult).trans u0, (Below.cell hk (p := ⟨g3, _, none⟩) ult).trans u1, (Below.cell hk (p := ⟨g3, _, none⟩) ult).trans u2, (Below.cell hk (p := ⟨g3, _, none⟩) ult).trans u3, (Below.cell hk (p := ⟨g1, _, none⟩) hg1).trans x0, (Below.cell hk (p := ⟨g1, _, none⟩) hg1).trans x1, (Below.cell hk (p := ⟨g1, _, none⟩) hg1).trans x2, (Below.cell hk (p := ⟨g1, _, none⟩) hg1).trans x3⟩, hk⟩)
      clear hk5 hk6 hW5 hW6 x0 x1 x2 x3 u0 u1 u2 u3 ult hg1 TM TR HS16
      refine wp_region_front 6 1 _ (fun w' => (w'.cell? ⟨g3, 0, none⟩ = some (.bool (decide (rs.num < 0))) ∧ w'.cell? ⟨g3, 1, none⟩ = some (.slice L1 l1 l2) ∧ w'.cell? ⟨g3, 2, none⟩ = some (.bool false) ∧ w'.cell? ⟨g3, 3, none⟩ = some (.slice L2 l3 l4) ∧ w'.cell? ⟨g1, a * 4, none⟩ = some (.bool (decide (mm.num < 0))) ∧ w'.cell? ⟨g1, a * 4 + 1, none⟩ = some (.slice X1 x5 x6) ∧ w'.cell? ⟨g1, a * 4 + 2, none⟩ = some (.bool false) ∧ w'.cell? ⟨g1, a * 4 + 3, none⟩ = some (.slice X2 x7 x8)) ∧ Kp w6 w') (by kernel_rfl) (by kernel_rfl) rfl (HS17.out _ (Kp.drew (Kp.refl w6))) (fun hHeld => ?_)
      simp only [List.toList_toArray, List.take_succ_cons, List.take_zero]
      refine' tkk 0 rfl (by kernel_rfl) (fun _ _ _ h => h) (.inl ⟨by rfl, ?_⟩) (by assumption) ?_; rotate_left
      ·(intro w hSw; (try dsimp only at hSw); (try simp only [p1, p2, p3]); go_simp; first | done | with_reducible rfl)
      (try simp only [Act.put, p1, p2, p3, p4, p5, p6])
      refine' tkk 1 rfl (by kernel_rfl) (fun _ _ _ h => h) (.inl ⟨by rfl, ?_⟩) (by assumption) ?_; rotate_left
      ·(intro w hSw; (try dsimp only at hSw); (try simp only [p1, p2, p3]); go_simp; first | done | with_reducible rfl)
      (try simp only [Act.put, p1, p2, p3, p4, p5, p6])
      refine' tkk 2 rfl (by kernel_rfl) (fun _ _ _ h => h) (.inl ⟨by rfl, ?_⟩) (by assumption) ?_; rotate_left
      ·(intro w hSw; (try dsimp only at hSw); (try simp only [p1, p2, p3]); go_simp; first | done | with_reducible rfl)
      (try simp only [Act.put, p1, p2, p3, p4, p5, p6])
      refine' tkk 3 rfl (by kernel_rfl) (fun _ _ _ h => h) (.inl ⟨by rfl, ?_⟩) (by assumption) ?_; rotate_left
      ·(intro w hSw; (try dsimp only at hSw); (try simp only [p1, p2, p3]); go_simp; first | done | with_reducible rfl)
      (try simp only [Act.put, p1, p2, p3, p4, p5, p6])
      refine' tkk 4 rfl (by kernel_rfl) (fun _ _ _ h => h) (.inl ⟨by rfl, ?_⟩) (by assumption) ?_; rotate_left
      ·(intro w hSw; (try dsimp only at hSw); (try simp only [p1, p2, p3]); go_simp; first | done | with_reducible rfl)
      (try simp only [Act.put, p1, p2, p3, p4, p5, p6])
      refine wpAnyH_ready (rs := [5]) (by kernel_rfl) (by simp) ?_
      refine AllReadyH.cons rfl (fun K hK => ?_) AllReadyH.nil
      (try simp only [p1, p2, p3])
      go_simp
      have hk := And.right ‹_ ∧ Kp w6 _›
      refine (TSU.out _ hk).mono ?_
      rintro e v7 ⟨Y1, y1, y2, Y2, y3, y4, rfl, hk9, hj9, hW9, hX9, hF9, hG9, hbx⟩
      have hp := Kp.trans hk hbx
      have r7 : RQ v7 (rn) Y1 y1 y2 Y2 y3 y4 := ⟨hk9, hj9, hW9, hX9⟩
      clear hk hbx hk9 hj9 hW9 hX9 hF9 hG9
      (try (go_wp2_with fail))
      refine hK.out _ _ ?k1 (fun hHeld1 => ?n1)
      case k1 => ((try dsimp only); first | (with_reducible refine HS17.out _ ?_; with_reducible assumption) | (with_reducible refine HS17.out _ (Kp.drew ?_); with_reducible assumption) | (with_reducible refine' HS17.out _ (Kp.drew (And.right ?_)); rotate_left; with_reducible assumption))
      clear hK K
      (try simp only [Act.put, p1, p2, p3, p4, p5, p6])
      refine wpAnyH_done (by kernel_rfl) ?_ _
      unfold Qfr
      dsimp only
      have b15 := Kp.blk hp HF.out.2.2.2.1
      obtain ⟨_, _, _, _, f10, f11, f12, f13⟩ := b15.four
      refine wpAny_ready (rs := [6]) (by kernel_rfl) (by simp) ?_
      refine AllReady.cons rfl (fun K hK => ?_) AllReady.nil
      (try simp only [List.getElem_toArray, List.getElem_cons_zero, List.getElem_cons_succ])
      go_simp
      refine hK _ _ ?_
      clear hK K
      (try simp only [Act.put, List.getElem_toArray, List.getElem_cons_zero, List.getElem_cons_succ, List.setIfInBounds_toArray, List.set_cons_zero, List.set_cons_succ])
      refine wpAny_done (by kernel_rfl) ?_ _
      have e8 : (((v7.setCell ⟨g3, 0, none⟩ (.bool (decide (rn.num < 0)))).setCell ⟨g3, 1, none⟩ (.slice Y1 y1 y2)).setCell ⟨g3, 2, none⟩ (.bool false)).setCell ⟨g3, 3, none⟩ (.slice Y2 y3 y4) = qst v7 g3 0 (decide (rn.num < 0)) false Y1 Y2 y1 y2 y3 y4 := rfl
      rw [e8]
      have hfin : ∀ w', w' = qst v7 g3 0 (decide (rn.num < 0)) false Y1 Y2 y1 y2 y3 y4 → FrI g1 g2 g3 n V dn (tk.set a mm) rn w' := by
       rintro w' rfl
       obtain ⟨h1, h2, h3, h4, h5, h6⟩ := HF.out
       exact ⟨below_qst (h1.trans (Below.mono hp (Nat.le_trans (Nat.le_of_lt HGV.out) (Below.size h1)))) (by have := HGG.out; omega), (h2.below hp).far4 (by have := HGG.out; omega) b15 NoInt.four, (Kp.blk hp h3).far4 (by have := HGG.out; omega), Y1, y1, y2, Y2, y3, y4, b15.put4, r7.put4 b15 NoInt.four⟩
      have HF2 := Lib.hid (hfin _ rfl)
      clear hfin e8 hp r7 f10 f11 f12 f13 b15 HF
      generalize qst v7 g3 0 (decide (rn.num < 0)) false Y1 Y2 y1 y2 y3 y4 = w8 at *
      obtain ⟨Z1, z5, z6, Z2, z7, z8, q0, q1, q2, q3, -, -, -, -, hk5, hk6, hW5, hW6⟩ := HF2.out.2.1.cells HAN.out
      rw [HMM.out] at q0 hW5 hW6
      have TG := Lib.hid (fun W (hW : Kp w8 W) => rsignq_k (k := 1 + j) (by have := HPM.out; omega) (decide (mm.num < 0)) false Z1 Z2 z5 z6 z7 z8 mm W ((RQ.below ⟨hk5, hk6, hW5, hW6⟩ hW).qk HML.out (by have := HPM.out; omega)))
      clear hk5 hk6 hW5 hW6
      (try go_wp2_with fail)
      refine (TG.out _ (Kp.refl w8)).mono ?_
      rintro e w9 ⟨rfl, hb9⟩
      have HF3 := Lib.hid (show FrI g1 g2 g3 n V dn (tk.set a mm) rn w9 from by
       obtain ⟨h1, h2, h3, A1, k1, c1, A2, k2, c2, h4, h5⟩ := HF2.out
       exact ⟨h1.trans (Below.mono hb9 (Nat.le_trans (Nat.le_of_lt HGV.out) (Below.size h1))), h2.below hb9, Kp.blk hb9 h3, A1, k1, c1, A2, k2, c2, Kp.blk hb9 h4, h5.below hb9⟩)
      have hsp := HSPC.out w9 HF3.out.1
      have HPS := Lib.hid (sgn_pos mm)
      clear q0 q1 q2 q3 hb9 HF2 TG
      by_cases hm0 : 0 < mm
      ·have e3 : decide (0 < sgnQ mm) = true := by rw [HPS.out]; exact decide_eq_true hm0
       have HPR := Lib.hid (HPRI.out.1 hm0)
       generalize sgnQ mm = sv at *
       clear HPS hm0 HPRI
       go_wp2_with fail
       go_roundw
       case rel => exact ⟨j + 1, by omega, by rw [HPR.out], by first | rfl | go_num, by rw [HTK.out, HRS.out, HDN.out]; exact HF3⟩
       case measure => simp [intOf]; omega
      ·have e3 : decide (0 < sgnQ mm) = false := by rw [HPS.out]; exact decide_eq_false hm0
       have HPR := Lib.hid (HPRI.out.2 hm0)
       generalize sgnQ mm = sv at *
       clear HPS hm0 HPRI hsp
       go_wp2_with fail
       go_roundw
       case rel => exact ⟨j + 1, by omega, by rw [HPR.out], by first | rfl | go_num, by rw [HTK.out, HRS.out, HDN.out]; exact HF3⟩
       case measure => simp [intOf]; omega
   ·obtain rfl : n = j := by omega
    obtain ⟨r1, r2, r3, A5, k5, c5, A6, k6, c6, r4, r5⟩ := hI.out
    have hwr := HV.out.1.trans (r1.mono (Nat.le_of_lt HV.out.2.2.1))
    have hlt0 := HV.out.2.2.1
    have hb5 : Blk wr w.heap.size 31 #[.bool false, .slice none 0 0, .bool false, .slice none 0 0] := HV.out.2.1.below r1 hlt0
    obtain ⟨a0, a1, a2, a3, -, -, -, -⟩ := r4.four
    obtain ⟨i4, i5, i6, i7, f4, f5, f6, f7⟩ := hb5.four
    rw [HEND.out] at a0 r2 r4 r5 hI ⊢
    generalize hsm : (fillV us bs qs need ord).rest = sm at *
    generalize htk : (fillV us bs qs need ord).tk = tk at *
    generalize hpr : (fillV us bs qs need ord).price = pr at *
    have HE := Lib.hid (And.intro hsm (And.intro htk hpr))
    have hres : ∀ w', w' = (qst wr w.heap.size 0 (decide (sm.num < 0)) false A5 A6 k5 c5 k6 c6).drew → (∃ cs, Blk w' w.heap.size 31 cs ∧ cs = #[.bool (decide (sm.num < 0)), .slice A5 k5 c5, .bool false, .slice A6 k6 c6]) ∧ QsAt w' (some ⟨g1, 0, none⟩) n tk ∧ RQ w' sm A5 k5 c5 A6 k6 c6 ∧ Below w.heap.size w w' := by
     rintro w' rfl
     have hd := fun W : World => Below.drew (Below.refl W.heap.size W)
     exact ⟨⟨_, (hb5.put4).below (hd _) (hb5.put4).lt, rfl⟩, ((r2.far4 (by omega) hb5 NoInt.four).at).below (hd _), (r5.put4 hb5 NoInt.four).below (hd _), Below.drew (below_qst hwr (Nat.le_refl _))⟩
    have HRES := Lib.hid hres
    clear hI r1 r2 r3 r4 r5 hwr hb5 hres hsm htk hpr hlt0
    go_wp2_with fail
    go_region_with (fail)
    all_goals
     have e9 : (((wr.setCell ⟨w.heap.size, 0, none⟩ (.bool (decide (sm.num < 0)))).setCell ⟨w.heap.size, 1, none⟩ (.slice A5 k5 c5)).setCell ⟨w.heap.size, 2, none⟩ (.bool false)).setCell ⟨w.heap.size, 3, none⟩ (.slice A6 k6 c6) = qst wr w.heap.size 0 (decide (sm.num < 0)) false A5 A6 k5 c5 k6 c6 := rfl
     rw [e9]
     obtain ⟨⟨cs, hcs, rfl⟩, hq1, hq2, hq3⟩ := HRES.out _ rfl
     generalize (qst wr w.heap.size 0 (decide (sm.num < 0)) false A5 A6 k5 c5 k6 c6).drew = W9 at *
     obtain ⟨d0, d1, d2, d3, -, -, -, -⟩ := hcs.four
     have HF := Lib.hid (And.intro hq1 (And.intro hq2 hq3))
     clear e9 hcs hq1 hq2 hq3 HRES i4 i5 i6 i7 f4 f5 f6 f7 a0 a1 a2 a3
     go_wp2
     refine bodyPost_ret (v := .tuple #[.slice (some ⟨g1, 0, none⟩) n n, .int .i64 pr, .agg #[.bool (decide (sm.num < 0)), .slice A5 k5 c5, .bool false, .slice A6 k6 c6], .int .i64 0]) ?_ rfl ?_
     ·simp [results, Tryz.results12, go_sem, d0, d1, d2, d3]
     ·refine ⟨_, n, n, pr, _, A5, k5, c5, A6, k6, c6, rfl, HF.out.2.2, fun h0 => absurd rfl h0, fun _ ord' ho' => ?_⟩
      obtain rfl := HO.out ord' ho'
      rw [HE.out.1, HE.out.2.1, HE.out.2.2]
      exact ⟨rfl, rfl, rfl, HF.out.1, HF.out.2.1⟩
 ·have hx : (rchk us bs qs need != 0) = true := by simpa using hr
  have HR := Lib.hid hr
  generalize rchk us bs qs need = x at *
  clear h h' hg hr
  go_enter Tryz.func12, Tryz.ntmps12
  go_wp2_with fail
  have hb0 := Blk.new w 31 #[.bool false, .slice none 0 0, .bool false, .slice none 0 0]
  have hbw := (Kp.refl w).alloc (.cells #[.bool false, .slice none 0 0, .bool false, .slice none 0 0] 31)
  refine (TW.out _ hbw).mono ?_
  rintro e w1 ⟨rfl, hb1⟩
  have hb0 := Kp.blk hb1 hb0
  have hbw : Below w.heap.size w w1 := Below.trans hbw (hb1.mono (Below.size hbw))
  obtain ⟨_, _, _, _, f0, f1, f2, f3⟩ := hb0.four
  have hfin : ∀ w', w' = qst w1 w.heap.size 0 false false none none 0 0 0 0 → (∃ cs, Blk w' w.heap.size 31 cs ∧ cs = #[.bool false, .slice none 0 0, .bool false, .slice none 0 0]) ∧ Below w.heap.size w w' := by
   rintro w' rfl
   exact ⟨⟨_, hb0.put4, rfl⟩, below_qst hbw (Nat.le_refl _)⟩
  have HFI := Lib.hid hfin
  clear hfin hbw hb1 hb0
  go_wp2_with fail
  have e9 : (((w1.setCell ⟨w.heap.size, 0, none⟩ (.bool false)).setCell ⟨w.heap.size, 1, none⟩ (.slice none 0 0)).setCell ⟨w.heap.size, 2, none⟩ (.bool false)).setCell ⟨w.heap.size, 3, none⟩ (.slice none 0 0) = qst w1 w.heap.size 0 false false none none 0 0 0 0 := rfl
  rw [e9]
  obtain ⟨⟨cs, hcs, rfl⟩, hq3⟩ := HFI.out _ rfl
  generalize qst w1 w.heap.size 0 false false none none 0 0 0 0 = W9 at *
  obtain ⟨d0, d1, d2, d3, -, -, -, -⟩ := hcs.four
  refine bodyPost_ret (v := .tuple #[.slice none 0 0, .int .i64 0, .agg #[.bool false, .slice none 0 0, .bool false, .slice none 0 0], .int .i64 x]) ?_ rfl ?_
  ·simp [results, Tryz.results12, go_sem, d0, d1, d2, d3]
  ·exact ⟨none, 0, 0, 0, false, none, 0, 0, none, 0, 0, rfl, hq3, fun _ => ⟨rfl, rfl, rfl, rfl, rfl, Nat.le_refl _, Nat.le_refl _⟩, fun h0 => absurd h0 HR.out⟩

end Go.Proofs.YtodkhjihkkmplaaGreat
