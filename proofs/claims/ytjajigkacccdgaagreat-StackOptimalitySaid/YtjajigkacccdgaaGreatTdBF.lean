/-
Allocate of package step at a valid curve and a quantity that fits it: the walk. Allocate of package step at a valid curve and a quantity that fits it: the walk. No statement of the seat is proved here; no conditions beyond those of each theorem.
-/
import Derived.Test.YtjajigkacccdgaaGreatTdBE
import Derived.Deep.RegionWith
namespace Go.Proofs.YtjajigkacccdgaaGreat
set_option linter.unusedVariables false
set_option linter.unusedSimpArgs false
open Go.RowKit
open Wd

theorem info_Q : (Tryz.prog.info? 42).map (fun i => (i.zero, i.size, i.bytes)) = some (some (.agg #[.bool false, .slice none 0 0, .bool false, .slice none 0 0]), 4, 64) := by kernel_rfl

def qzero : Array Value := #[.bool false, .slice none 0 0, .bool false, .slice none 0 0]
theorem run_make_Q (k : Nat) (hk : k ≤ 1000000000) (w : World) :
  (Instr.makeSlice 46 (.int .i64 (k : Int)) (.int .i64 (k : Int))).run Tryz.prog w = .ok (.slice (some ⟨w.heap.size, 0, none⟩) k k) (w.alloc (.cells (madeCells qzero (k * 4)) 42)) := by
 obtain ⟨i0, hi, hz0, hz1, hz2⟩ := info_parts info_Q
 have h := run_make (P := Tryz.prog) w 46 42 i0 _ Tryz.underlying46 hi hz0 .i64 .i64 k k (by omega) (Int.le_refl _) (by rw [hz2]; omega) (by omega)
 rw [h, hz1]
 simp only [Int.toNat_natCast, Value.cells]
 rfl

theorem made_get (n i : Nat) (h : i < n) : (madeCells qzero n)[i]? = some (qzero[i % 4]!) := by
 simp [madeCells, h, qzero]

theorem made_noInt (n : Nat) : NoInt (madeCells qzero n) := by
 intro i k z
 by_cases h : i < n
 ·rw [made_get n i h]
  have h4 : i % 4 < 4 := Nat.mod_lt _ (by omega)
  generalize i % 4 = m at *
  match m, h4 with
  | 0, _ => simp [qzero]
  | 1, _ => simp [qzero]
  | 2, _ => simp [qzero]
  | 3, _ => simp [qzero]
 ·rw [Array.getElem?_eq_none (by rw [size_madeCells]; omega)]; simp

theorem QRow.start (w : World) (n : Nat) : QRow (w.alloc (.cells (madeCells qzero (n * 4)) 42)) w.heap.size n (List.replicate n 0) := by
 refine ⟨by simp, _, Blk.new _ _ _, made_noInt _, size_madeCells _ _, fun j hj => ?_⟩
 have e : ((List.replicate n (0 : Rat))[j]?.getD 0) = 0 := by simp [hj]
 rw [e]
 refine ⟨none, 0, 0, none, 0, 0, ?_, ?_, ?_, ?_, Nat.le_refl _, Nat.le_refl _, ?_, ?_⟩
 ·rw [made_get _ _ (by omega), show j * 4 % 4 = 0 by omega]; rfl
 ·rw [made_get _ _ (by omega), show (j * 4 + 1) % 4 = 1 by omega]; rfl
 ·rw [made_get _ _ (by omega), show (j * 4 + 2) % 4 = 2 by omega]; rfl
 ·rw [made_get _ _ (by omega), show (j * 4 + 3) % 4 = 3 by omega]; rfl
 ·show Wat _ none 0 (digs 0); rw [digs_zero]; exact Wat.nil
 ·show Wat _ none 0 []; exact Wat.nil

end Go.Proofs.YtjajigkacccdgaaGreat

namespace Go.Proofs.YtjajigkacccdgaaGreat
set_option linter.unusedVariables false
set_option linter.unusedSimpArgs false
open Go.RowKit
open Wd

/-- The lesser of two, with the second a whole number in memory. -/
theorem qless_any (M Nn Nd : Nat) (HO : WOK M) (hnm : Nn ≤ M) (hdm : Nd ≤ M) {w : World} {an an' : Bool} {aA aA' bA bA' : Option Addr} {ak ac ak' ac' bk bc bk' bc' : Nat} {r : Rat} {a : Int}
  (ha : QAt Nn Nd w an aA ak ac an' aA' ak' ac' r) (hk : bk ≤ bc) (hk' : bk' ≤ bc') (hW : Wat w bA bk (digs ((a : Int) : Rat).num.natAbs)) (hW' : Wat w bA' bk' (denW ((a : Int) : Rat).den)) (h1 : a.natAbs < Nn) (h2 : 1 < Nd) (h3 : Nn ≤ M) :
  Calls Tryz.prog 85 #[.agg #[.bool an, .slice aA ak ac, .bool an', .slice aA' ak' ac'], .agg #[.bool (decide (((a : Int) : Rat).num < 0)), .slice bA bk bc, .bool false, .slice bA' bk' bc']] w (RetQ w (lessQ r a)) := by
 have hl : bk ≤ 10000000000 := by
  rw [← hW.1, show ((a : Int) : Rat).num = a from rfl]
  exact HO.len _ (by omega)
 have hl' : bk' ≤ 10000000000 := by
  rw [← hW'.1, show ((a : Int) : Rat).den = 1 from rfl]; simp [denW]
 exact qmin_any M Nn Nd HO hnm hdm an an' _ false aA aA' bA bA' ak ac ak' ac' bk bc bk' bc' r (a : Rat) w ha (qat_canon hk hk' hW hW' hl hl' h1 h2)

/-- All blocks but g are as in W, and g is still a block of its kind. -/
def RGB (g : Nat) (t : TypeId) (W w' : World) : Prop := W.grownBy w' (some g) ∧ ∃ cs, Blk w' g t cs
section
variable {g : Nat} {t : TypeId} {W w w' : World}
theorem RGB.start {cs : Array Value} (h : Blk W g t cs) : RGB g t W W := ⟨⟨rfl, rfl, rfl, Nat.le_refl _, fun _ _ _ => rfl⟩, cs, h⟩
theorem RGB.drew (h : RGB g t W w) : RGB g t W w.drew := ⟨⟨h.1.os, h.1.tape, h.1.output, h.1.size, h.1.block⟩, h.2⟩
theorem RGB.call (h : RGB g t W w) (hb : Below w.heap.size w w') : RGB g t W w' := by
 obtain ⟨h1, cs, h2⟩ := h
 exact ⟨⟨hb.os.trans h1.os, hb.tape.trans h1.tape, hb.output.trans h1.output, Nat.le_trans h1.size hb.size, fun k hk hne => (hb.block k (Nat.lt_of_lt_of_le hk h1.size)).trans (h1.block k hk hne)⟩, cs, h2.below hb h2.lt⟩
theorem RGB.set (h : RGB g t W w) (o1 o2 o3 o4 : Nat) (a b c d : Value) : RGB g t W ((((w.setCell ⟨g, o1, none⟩ a).setCell ⟨g, o2, none⟩ b).setCell ⟨g, o3, none⟩ c).setCell ⟨g, o4, none⟩ d) := by
 obtain ⟨h1, cs, h2⟩ := h
 refine ⟨⟨h1.os, h1.tape, h1.output, by simpa [World.setCell] using h1.size, fun k hk hne => ?_⟩, _, (((h2.set o1 a).set o2 b).set o3 c).set o4 d⟩
 have hkg : k ≠ g := fun e => hne (by rw [e])
 rw [Below.heap_setCell _ _ _ _ (by simpa using hkg), Below.heap_setCell _ _ _ _ (by simpa using hkg), Below.heap_setCell _ _ _ _ (by simpa using hkg), Below.heap_setCell _ _ _ _ (by simpa using hkg)]
 exact h1.block k hk hne
theorem RGB.blk {g' : Nat} {t' : TypeId} {cs : Array Value} (h : RGB g t W w) (hg : Blk W g' t' cs) (hne : g' ≠ g) : Blk w g' t' cs := (h.1.block g' hg.lt (fun e => hne (by injection e))).trans hg
end
theorem QRow.cells {w : World} {g n : Nat} {ps : List Rat} (h : QRow w g n ps) {j : Nat} (hj : j < n) : ∃ A k c A' k' c',
  w.cell? ⟨g, j * 4, none⟩ = some (.bool (decide ((ps[j]?.getD 0).num < 0))) ∧ w.cell? ⟨g, j * 4 + 1, none⟩ = some (.slice A k c) ∧ w.cell? ⟨g, j * 4 + 2, none⟩ = some (.bool false) ∧ w.cell? ⟨g, j * 4 + 3, none⟩ = some (.slice A' k' c') ∧
  w.frozen? ⟨g, j * 4, none⟩ = false ∧ w.frozen? ⟨g, j * 4 + 1, none⟩ = false ∧ w.frozen? ⟨g, j * 4 + 2, none⟩ = false ∧ w.frozen? ⟨g, j * 4 + 3, none⟩ = false ∧
  k ≤ c ∧ k' ≤ c' ∧ Wat w A k (digs (ps[j]?.getD 0).num.natAbs) ∧ Wat w A' k' (denW (ps[j]?.getD 0).den) := by
 obtain ⟨_, cs, hb, _, _, hc⟩ := h
 obtain ⟨A, k, c, A', k', c', e1, e2, e3, e4, e5, e6, e7, e8⟩ := hc j hj
 exact ⟨A, k, c, A', k', c', (hb.cell _).trans e1, (hb.cell _).trans e2, (hb.cell _).trans e3, (hb.cell _).trans e4, hb.frozen _, hb.frozen _, hb.frozen _, hb.frozen _, e5, e6, e7, e8⟩

/-- The state of Allocate's loop before step k. -/
def AllR (w : World) (Nn Nd g n : Nat) (l : List (Int × Int)) (q : Rat) (k : Nat) (ps : List Rat) (bn : Bool) (bA : Option Addr) (bk bc : Nat) (bn' : Bool) (bA' : Option Addr) (bk' bc' : Nat) (wr : World) : Prop :=
 Below w.heap.size w wr ∧ Blk wr g 42 #[.bool bn, .slice bA bk bc, .bool bn', .slice bA' bk' bc'] ∧ QAt Nn Nd wr bn bA bk bc bn' bA' bk' bc' (restAt l q k) ∧ QRow wr (g + 1) n ps ∧ ∀ j, j < k → ps[j]?.getD 0 = partAt l q j

theorem qat_len {M Nn Nd : Nat} (HO : WOK M) (hnm : Nn ≤ M) (hdm : Nd ≤ M) {w : World} {A A' : Option Addr} {k c k' c' : Nat} {q : Rat} (hk : k ≤ c) (hk' : k' ≤ c') (hW : Wat w A k (digs q.num.natAbs)) (hW' : Wat w A' k' (denW q.den)) (hn : q.num.natAbs < Nn) (hd : q.den < Nd) :
  QAt Nn Nd w (decide (q.num < 0)) A k c false A' k' c' q := by
 refine qat_canon hk hk' hW hW' ?_ ?_ hn hd
 ·rw [← hW.1]; exact HO.len _ (by omega)
 ·rw [← hW'.1]; unfold denW; split
  ·simp
  ·exact HO.len _ (by omega)

theorem partAt_bd {l : List (Int × Int)} {q : Rat} {Nn Nd : Nat} (h0 : 0 ≤ q) (hok : ∀ s ∈ l, ¬ Bad s.1 s.2) (hn : q.num.natAbs < Nn) (hd : q.den < Nd) (hN : 3000000 < Nn) (hD : 1 < Nd) {k : Nat} (hk : k < l.length) : (partAt l q k).num.natAbs < Nn ∧ (partAt l q k).den < Nd := by
 obtain ⟨i1, i2, i3⟩ := restAt_bd h0 hok hn hd k (by omega)
 have hm : (l[k]?.getD (0, 0)) ∈ l := by rw [List.getElem?_eq_getElem (by omega)]; exact List.getElem_mem _
 have hb := hok _ hm
 unfold Bad at hb
 unfold partAt lessQ
 split
 ·refine ⟨?_, hD⟩
  show (l[k]?.getD (0, 0)).1.natAbs < Nn
  omega
 ·exact ⟨i2, i3⟩

set_option maxRecDepth 100000 in
set_option maxHeartbeats 8000000 in
theorem salloc_ok (M Nn Nd : Nat) (HO : WOK M) (hM1 : 2 * (Nn * Nd) ≤ M) (hM2 : Nd * Nd ≤ M) (hnm : Nn ≤ M) (hdm : Nd ≤ M) (hN : 3000000 < Nn) (hN2 : Nn ≤ M) (hD : 1 < Nd)
  (A : Option Addr) (n c : Nat) (l : List (Int × Int)) (an an' : Bool) (aA aA' : Option Addr) (ak ac ak' ac' : Nat) (q : Rat) (w : World) (h : StAt w A n l) (hq : QAt Nn Nd w an aA ak ac an' aA' ak' ac' q)
  (he : curveE l = 0) (h0 : 0 ≤ q) (h1 : q ≤ (qsum l : Int)) :
  Calls Tryz.prog 89 #[.slice A n c, .agg #[.bool an, .slice aA ak ac, .bool an', .slice aA' ak' ac']] w
   (fun e w' => ∃ g ps, e = .returned (.tuple #[.slice (some ⟨g, 0, none⟩) n n, .int .i64 0]) ∧ QRow w' g n ps ∧ (∀ j, j < n → ps[j]?.getD 0 = partAt l q j) ∧ w.heap.size ≤ g ∧ Below w.heap.size w w') := by
 obtain ⟨hn0, hn3, hok⟩ := curve_ok he
 have hln := h.1
 have hn : n ≤ 3 := by omega
 have hbd := qsum_bd l hok
 have hlen : (l.length : Int) ≤ 3 := by omega
 have hsum : sumS l = qsum l := by unfold sumS; rw [if_pos he]
 have CC := fun W (hW : Below w.heap.size w W) => checkCurve_any A n c l W (h.below hW) (by omega)
 have SM := fun W (hW : Below w.heap.size w W) => sum_any A n c l W (h.below hW) (by omega)
 have SG := fun W (hW : Below w.heap.size w W) => qsign_any an an' aA aA' ak ac ak' ac' q W (hq.below hW)
 have hsg : decide (sgnQ q < 0) = false := by
  have := Rat.num_nonneg.2 h0
  unfold sgnQ cmpI
  split
  ·omega
  ·split <;> simp
 have hcm : decide (0 < cmpQ q ((qsum l : Int) : Rat)) = false := by
  unfold cmpQ
  split
  ·simp
  ·rw [if_neg (by grind)]; simp
 have FI := fun W => qfromInt64_any (qsum l) W (by omega) (by omega)
 have hCM : ∀ W (hW : Below w.heap.size w W) (B B' : Option Addr) (k d k' d' : Nat), k ≤ d → k' ≤ d' → Wat W B k (digs ((qsum l : Int) : Rat).num.natAbs) → Wat W B' k' (denW ((qsum l : Int) : Rat).den) →
   Calls Tryz.prog 43 #[.agg #[.bool an, .slice aA ak ac, .bool an', .slice aA' ak' ac'], .agg #[.bool (decide (((qsum l : Int) : Rat).num < 0)), .slice B k d, .bool false, .slice B' k' d']] W fun e w' => e = .returned (.int .i64 (cmpQ q ((qsum l : Int) : Rat))) ∧ Below W.heap.size W w' := by
  intro W hW B B' k d k' d' hk hk' h5 h6
  refine qcmp_any (Nn := Nn) (Nd := Nd) an an' _ false aA aA' B B' ak ac ak' ac' k d k' d' q _ W (hq.below hW) (qat_canon hk hk' h5 h6 ?_ ?_ ?_ hD)
  ·rw [← h5.1, show ((qsum l : Int) : Rat).num = qsum l from rfl]
   exact HO.len _ (by omega)
  ·rw [← h6.1, show ((qsum l : Int) : Rat).den = 1 from rfl]; simp [denW]
  ·show (qsum l).natAbs < Nn; omega
 rw [he] at CC
 rw [hsum] at SM
 generalize sgnQ q = sq at *
 generalize cmpQ q ((qsum l : Int) : Rat) = cq at *
 generalize hqr : ((qsum l : Int) : Rat) = qs at *
 have hs1 : -3000000 ≤ qsum l := by omega
 have hs2 : qsum l ≤ 3000000 := by omega
 generalize qsum l = sl at *
 have CC := Lib.hid CC
 have SM := Lib.hid SM
 have SG := Lib.hid SG
 have FI := Lib.hid FI
 have HCM := Lib.hid hCM
 have HQ := Lib.hid hq
 have HST := Lib.hid h
 have hn0 : n ≠ 0 := by omega
 have hmk := fun w => run_make_Q n (by omega) w
 clear hCM hbd hlen hsum hqr h he h1 hn3 hq
 go_enter Tryz.func89, Tryz.ntmps89
 go_wp2_with fail
 obtain ⟨hB0, hBW, hsz⟩ := pre1 w 42 #[.bool an, .slice aA ak ac, .bool an', .slice aA' ak' ac']
 generalize w.alloc (.cells #[.bool an, .slice aA ak ac, .bool an', .slice aA' ak' ac'] 42) = W at *
 have HSZ := Lib.hid hsz
 clear hsz
 refine (CC.out W hBW).mono ?_
 rintro e w1 ⟨rfl, hb1⟩
 have hB0 := hB0.below hb1 hB0.lt
 have hBW : Below w.heap.size w w1 := hBW.trans (hb1.mono hBW.size)
 clear hb1 HSZ CC
 have hBK : ∀ w', Kp w1 w' → Below w.heap.size w w' := fun w' hk => hBW.trans (Below.mono hk hBW.size)
 have HBK := Lib.hid hBK
 clear hBK
 have s5 := Kp.refl w1
 go_wp2_with fail
 have hS : ∀ w', Kp w1 w' → (w'.cell? ⟨w.heap.size, 0, none⟩ = some (.bool an) ∧ w'.cell? ⟨w.heap.size, 1, none⟩ = some (.slice aA ak ac) ∧ w'.cell? ⟨w.heap.size, 2, none⟩ = some (.bool an') ∧ w'.cell? ⟨w.heap.size, 3, none⟩ = some (.slice aA' ak' ac')) ∧ Kp w1 w' := fun w' hk => ⟨⟨(hk.blk hB0).cell 0, (hk.blk hB0).cell 1, (hk.blk hB0).cell 2, (hk.blk hB0).cell 3⟩, hk⟩
 have HS := Lib.hid hS
 clear hS
 go_region_held3 (fun w' => (w'.cell? ⟨w.heap.size, 0, none⟩ = some (.bool an) ∧ w'.cell? ⟨w.heap.size, 1, none⟩ = some (.slice aA ak ac) ∧ w'.cell? ⟨w.heap.size, 2, none⟩ = some (.bool an') ∧ w'.cell? ⟨w.heap.size, 3, none⟩ = some (.slice aA' ak' ac')) ∧ Kp w1 w')
  (first | (with_reducible refine HS.out _ ?_; with_reducible assumption) | (with_reducible refine HS.out _ (Kp.drew ?_); with_reducible assumption) | (with_reducible refine' HS.out _ (Kp.drew (And.right ?_)); rotate_left; with_reducible assumption))
  (first
   | (go_at_call 57; have hk := And.right ‹_ ∧ Kp w1 _›; refine (SG.out _ (HBK.out _ hk)).mono ?_; rintro e v1 ⟨rfl, hb1⟩; have hr1 := hk.trans hb1; clear hb1)
   | (go_at_call 137; have hk := And.right ‹_ ∧ Kp w1 _›; refine (SM.out _ (HBK.out _ hk)).mono ?_; rintro e v2 ⟨rfl, hb2⟩; have hr2 := hk.trans hb2; clear hb2)
   | (go_at_call 40; have hk := And.right ‹_ ∧ Kp w1 _›; refine (FI.out _).mono ?_; rintro e v3 ⟨A3, k3, c3, A4, k4, c4, rfl, hk3, hk4, hW3, hW4, hF3, hF4, hb3⟩; have hr3 := hk.trans hb3; clear hb3)
   | (go_at_call 43; have hk := And.right ‹_ ∧ Kp w1 _›; refine (HCM.out _ (HBK.out _ hk) A3 A4 k3 c3 k4 c4 hk3 hk4 hW3 hW4).mono ?_; rintro e v4 ⟨rfl, hb4⟩; have hr4 := hk.trans hb4; clear hb4))
 rename_i hHeld
 obtain ⟨⟨c0, c1, c2, c3⟩, -⟩ := hHeld
 have hB4 : Below w.heap.size w v4 := HBK.out _ hr4
 have hB5 : Below w.heap.size w ((v4.alloc (.cells #[.bool an, .slice aA ak ac, .bool an', .slice aA' ak' ac'] 42)).alloc (.cells (madeCells qzero (n * 4)) 42)) := (hB4.alloc hB4.size _).alloc (Nat.le_trans hB4.size (by simp)) _
 have hQR := QRow.start (v4.alloc (.cells #[.bool an, .slice aA ak ac, .bool an', .slice aA' ak' ac'] 42)) n
 rw [World.size_alloc] at hQR
 have hst : AllR w Nn Nd v4.heap.size n l q 0 (List.replicate n 0) an aA ak ac an' aA' ak' ac' ((v4.alloc (.cells #[.bool an, .slice aA ak ac, .bool an', .slice aA' ak' ac'] 42)).alloc (.cells (madeCells qzero (n * 4)) 42)) :=
  ⟨hB5, (Blk.new v4 _ _).alloc _, HQ.out.below hB5, hQR, fun j hj => absurd hj (by omega)⟩
 have hgs : w.heap.size ≤ v4.heap.size := hB4.size
 clear hB4 hB5 hQR hW3 hW4 hF3 hF4 hk3 hk4 HCM FI SG SM HBK s5 hr1 hr2 hr3 hr4 HS
 go_wp2_with fail
 generalize (v4.alloc (.cells #[.bool an, .slice aA ak ac, .bool an', .slice aA' ak' ac'] 42)).alloc (.cells (madeCells qzero (n * 4)) 42) = W0 at *
 generalize List.replicate n (0 : Rat) = ps0 at *
 generalize v4.heap.size = g at *
 clear c0 c1 c2 c3 hmk
 go_loopw [33] (fun t wr => ∃ (k : Nat) (ps : List Rat) (bn : Bool) (bA : Option Addr) (bk bc : Nat) (bn' : Bool) (bA' : Option Addr) (bk' bc' : Nat), k ≤ n ∧ t = .int .i64 k ∧ Hid (AllR w Nn Nd g n l q k ps bn bA bk bc bn' bA' bk' bc' wr)) (fun t _ => n - (intOf t).toNat)
 case atStart => exact ⟨0, ps0, an, aA, ak, ac, an', aA', ak', ac', Nat.zero_le _, rfl, hst⟩
 case round =>
  clear hst
  obtain ⟨k, ps, bn, bA, bk, bc, bn', bA', bk', bc', hk, rfl, hR⟩ := hrel
  by_cases hlt : k < n
  ·obtain ⟨hB, hBx, hQx, hRow, hPs⟩ := hR.out
   obtain ⟨b, o, rfl, hb, hcell⟩ := HST.out.2.2 hn0
   obtain ⟨ck, ck'⟩ := hcell k hlt
   have hck := (hB.cell (p := ⟨b, o + k * 2, none⟩) hb).trans ck
   have hck' := (hB.cell (p := ⟨b, o + k * 2 + 1, none⟩) hb).trans ck'
   have hmem : (l[k]?.getD (0, 0)) ∈ l := by rw [List.getElem?_eq_getElem (by omega)]; exact List.getElem_mem _
   have hbad := hok _ hmem
   unfold Bad at hbad
   have hrb := restAt_bd (l := l) (q := q) h0 hok (HQ.out.bd).1 (HQ.out.bd).2 (k + 1) (by omega)
   have hr1 : restAt l q (k + 1) = restAt l q k - lessQ (restAt l q k) (l[k]?.getD (0, 0)).1 := rfl
   have hp1 : partAt l q k = lessQ (restAt l q k) (l[k]?.getD (0, 0)).1 := rfl
   have hz1 : g + 1 < wr.heap.size := by obtain ⟨_, cs, hbk, _⟩ := hRow; exact hbk.lt
   have FI := fun W => qfromInt64_any (l[k]?.getD (0, 0)).1 W (by omega) (by omega)
   have HMIN := fun (W : World) (B B' : Option Addr) (j d j' d' : Nat) (hW : QAt Nn Nd W bn bA bk bc bn' bA' bk' bc' (restAt l q k)) (h1 : j ≤ d) (h2 : j' ≤ d') (h3 : Wat W B j (digs (((l[k]?.getD (0, 0)).1 : Int) : Rat).num.natAbs)) (h4 : Wat W B' j' (denW (((l[k]?.getD (0, 0)).1 : Int) : Rat).den)) => qless_any M Nn Nd HO hnm hdm hW h1 h2 h3 h4 (by omega) hD hN2
   rw [← hp1] at hr1 HMIN
   have hpb := partAt_bd (l := l) (q := q) h0 hok (HQ.out.bd).1 (HQ.out.bd).2 hN hD (k := k) (by omega)
   have HSUB := fun (W : World) (B B' : Option Addr) (j d j' d' : Nat) (hW : QAt Nn Nd W bn bA bk bc bn' bA' bk' bc' (restAt l q k)) (h1 : j ≤ d) (h2 : j' ≤ d') (h3 : Wat W B j (digs (partAt l q k).num.natAbs)) (h4 : Wat W B' j' (denW (partAt l q k).den)) => qsub_any M Nn Nd HO hM1 hM2 bn bn' _ false bA bA' B B' bk bc bk' bc' j d j' d' (restAt l q k) (partAt l q k) W hW (qat_len HO hnm hdm h1 h2 h3 h4 hpb.1 hpb.2)
   rw [← hr1] at HSUB
   have FI := Lib.hid FI
   have HMIN := Lib.hid HMIN
   have HSUB := Lib.hid HSUB
   have HRB := Lib.hid hrb
   generalize hqv : (((l[k]?.getD (0, 0)).1 : Int) : Rat) = qk at *
   generalize (l[k]?.getD (0, 0)).1 = sq1 at *
   generalize (l[k]?.getD (0, 0)).2 = sp1 at *
   have hPs := Lib.hid hPs
   have hcell := Lib.hid hcell
   clear hbad hrb hr1 hp1 hmem hqv hpb ck ck'
   go_wp2_with fail
   have hBx := hBx.alloc (.cells #[.int .i64 sq1, .int .i64 sp1] 107)
   have hb9 : Below wr.heap.size wr (wr.alloc (.cells #[.int .i64 sq1, .int .i64 sp1] 107)) := (Below.refl _ _).alloc (Nat.le_refl _) _
   have hRow := hRow.below hb9
   have hQx := hQx.below hb9
   have hSt := Blk.new wr 107 #[.int .i64 sq1, .int .i64 sp1]
   have hBw := hB.alloc hB.size (.cells #[.int .i64 sq1, .int .i64 sp1] 107)
   generalize wr.alloc (.cells #[.int .i64 sq1, .int .i64 sp1] 107) = W2 at *
   clear hb9 hck hck' hB
   have hRow' := Lib.hid hRow
   have hQx' := Lib.hid hQx
   have s5 := Kp.refl W2
   have s6 : RGB (g + 1) 42 W2 W2 := by obtain ⟨_, cs, hbk, _⟩ := hRow; exact RGB.start hbk
   have hki : (0 : Int) ≤ (k : Int) ∧ (k : Int) < (n : Int) := by omega
   obtain ⟨hki1, hki2⟩ := hki
   clear hRow hQx
   have hS : ∀ w', RGB (g + 1) 42 W2 w' → (w'.cell? ⟨g, 0, none⟩ = some (.bool bn) ∧ w'.cell? ⟨g, 1, none⟩ = some (.slice bA bk bc) ∧ w'.cell? ⟨g, 2, none⟩ = some (.bool bn') ∧ w'.cell? ⟨g, 3, none⟩ = some (.slice bA' bk' bc') ∧ w'.cell? ⟨wr.heap.size, 0, none⟩ = some (.int .i64 sq1)) ∧ RGB (g + 1) 42 W2 w' := fun w' hk => ⟨⟨(hk.blk hBx (by omega)).cell 0, (hk.blk hBx (by omega)).cell 1, (hk.blk hBx (by omega)).cell 2, (hk.blk hBx (by omega)).cell 3, (hk.blk hSt (by omega)).cell 0⟩, hk⟩
   have HS := Lib.hid hS
   clear hS
   go_region_held3 (fun w' => (w'.cell? ⟨g, 0, none⟩ = some (.bool bn) ∧ w'.cell? ⟨g, 1, none⟩ = some (.slice bA bk bc) ∧ w'.cell? ⟨g, 2, none⟩ = some (.bool bn') ∧ w'.cell? ⟨g, 3, none⟩ = some (.slice bA' bk' bc') ∧ w'.cell? ⟨wr.heap.size, 0, none⟩ = some (.int .i64 sq1)) ∧ RGB (g + 1) 42 W2 w')
    (first | (with_reducible refine HS.out _ ?_; with_reducible assumption) | (with_reducible refine HS.out _ (RGB.drew ?_); with_reducible assumption) | (with_reducible refine' HS.out _ (RGB.drew (And.right ?_)); rotate_left; with_reducible assumption) | (with_reducible refine' HS.out _ (RGB.set (And.right ?_) _ _ _ _ _ _ _ _); rotate_left; with_reducible assumption))
    (first
     | (go_at_call 40; have hk := And.right ‹_ ∧ RGB (g + 1) 42 W2 _›; refine (FI.out _).mono ?_; rintro e v5 ⟨A3, k3, c3, A4, k4, c4, rfl, hk3, hk4, hW3, hW4, hF3, hF4, hb3⟩; have hr3 := hk.call hb3; have hp3 : Kp W2 v5 := Kp.trans (Kp.drew s5) hb3; clear hb3)
     | (go_at_call 85; have hk := And.right ‹_ ∧ RGB (g + 1) 42 W2 _›; refine (HMIN.out _ A3 A4 k3 c3 k4 c4 (hQx'.out.below hp3) hk3 hk4 hW3 hW4).mono ?_; rintro e v6 ⟨A5, k5, c5, A6, k6, c6, rfl, hk5, hk6, hW5, hW6, hF5, hF6, hb4⟩; have hr4 := hk.call hb4; have hp4 : Kp W2 v6 := Kp.trans hp3 hb4; obtain ⟨_, _, _, _, _, _, i0, i1, i2, i3, i4, i5, i6, i7, -⟩ := (hRow'.out.below hp4).cells hlt; clear hb4))
   rename_i hHeld
   clear hHeld
   have e7 : (((v6.setCell ⟨g + 1, k * 4, none⟩ (.bool (decide ((partAt l q k).num < 0)))).setCell ⟨g + 1, k * 4 + 1, none⟩ (.slice A5 k5 c5)).setCell ⟨g + 1, k * 4 + 2, none⟩ (.bool false)).setCell ⟨g + 1, k * 4 + 3, none⟩ (.slice A6 k6 c6) = qst v6 (g + 1) (k * 4) (decide ((partAt l q k).num < 0)) false A5 A6 k5 c5 k6 c6 := rfl
   rw [e7]
   have hRow6 := hRow'.out.below hp4
   have hRow7 := hRow6.put hlt hk5 hk6 hW5 hW6
   obtain ⟨hlen6, cs6, hbk6, hni6, -⟩ := hRow6
   have hBx7 : Blk (qst v6 (g + 1) (k * 4) (decide ((partAt l q k).num < 0)) false A5 A6 k5 c5 k6 c6) g _ _ := (Kp.blk hp4 hBx).far4 (by omega)
   have hQx7 := (hQx'.out.below hp4).put4 (o := k * 4) (a := decide ((partAt l q k).num < 0)) (b := false) (A := A5) (A' := A6) (k := k5) (c := c5) (k' := k6) (c' := c6) hbk6 hni6
   have hB6 : Below w.heap.size w v6 := hBw.trans (Below.mono hp4 hBw.size)
   have hB7 : Below w.heap.size w (qst v6 (g + 1) (k * 4) (decide ((partAt l q k).num < 0)) false A5 A6 k5 c5 k6 c6) := below_qst hB6 (by omega)
   generalize qst v6 (g + 1) (k * 4) (decide ((partAt l q k).num < 0)) false A5 A6 k5 c5 k6 c6 = W7 at *
   clear e7 hr3 hr4 hp3 hp4 i0 i1 i2 i3 i4 i5 i6 i7 hW3 hW4 hF3 hF4 hk3 hk4 hW5 hW6 hF5 hF6 hk5 hk6 hbk6 hni6 s5 s6 hBw HS hSt hBx hRow' hQx' HMIN FI hB6
   have epk : (ps.set k (partAt l q k))[k]?.getD 0 = partAt l q k := by simp [hlen6, hlt]
   have hPs' : ∀ j, j < k + 1 → (ps.set k (partAt l q k))[j]?.getD 0 = partAt l q j := by
    intro j hj
    by_cases hjk : j = k
    ·rw [hjk]; exact epk
    ·rw [List.getElem?_set_ne (Ne.symm hjk)]; exact hPs.out j (by omega)
   have hPs' := Lib.hid hPs'
   obtain ⟨A8, k8, c8, A9, k9, c9, j0, j1, j2, j3, -, -, -, -, hk8, hk9, hW8, hW9⟩ := hRow7.cells hlt
   rw [epk] at j0 hW8 hW9
   generalize ps.set k (partAt l q k) = ps' at *
   have hrow := Lib.hid hRow7
   have hqx := Lib.hid hQx7
   have s5 := Kp.refl W7
   have s6 := RG4.start hBx7
   obtain ⟨x0, x1, x2, x3, y0, y1, y2, y3⟩ := hBx7.four
   clear hRow7 hQx7
   go_wp2_with fail
   go_region_with (first | (go_at_call 55; refine (HSUB.out _ A8 A9 k8 c8 k9 c9 (hqx.out.below (Kp.drew s5)) hk8 hk9 hW8 hW9).mono ?_; rintro e v8 ⟨A5, k5, c5, A6, k6, c6, rfl, hk5, hk6, hW5, hW6, hF5, hF6, hb4⟩; have hp4 : Kp W7 v8 := Kp.trans (Kp.drew s5) hb4; obtain ⟨i0, i1, i2, i3, i4, i5, i6, i7⟩ := (Kp.blk hp4 hBx7).four; clear hb4))
   all_goals
    have e8 : (((v8.setCell ⟨g, 0, none⟩ (.bool (decide ((restAt l q (k + 1)).num < 0)))).setCell ⟨g, 1, none⟩ (.slice A5 k5 c5)).setCell ⟨g, 2, none⟩ (.bool false)).setCell ⟨g, 3, none⟩ (.slice A6 k6 c6) = qst v8 g 0 (decide ((restAt l q (k + 1)).num < 0)) false A5 A6 k5 c5 k6 c6 := rfl
    rw [e8]
    have hbx8 := Kp.blk hp4 hBx7
    have hfin : AllR w Nn Nd g n l q (k + 1) ps' (decide ((restAt l q (k + 1)).num < 0)) A5 k5 c5 false A6 k6 c6 (qst v8 g 0 (decide ((restAt l q (k + 1)).num < 0)) false A5 A6 k5 c5 k6 c6) := by
     refine ⟨below_qst (hB7.trans (Below.mono hp4 hB7.size)) hgs, hbx8.put4, ?_, ?_, hPs'.out⟩
     ·exact qat_len HO hnm hdm hk5 hk6 (hW5.put4 hbx8 NoInt.four) (hW6.put4 hbx8 NoInt.four) HRB.out.2.1 HRB.out.2.2
     ·exact (hrow.out.below hp4).far4 (by omega) hbx8 NoInt.four
    generalize qst v8 g 0 (decide ((restAt l q (k + 1)).num < 0)) false A5 A6 k5 c5 k6 c6 = W8 at *
    have HF := Lib.hid hfin
    clear e8 hfin hbx8 i0 i1 i2 i3 i4 i5 i6 i7 x0 x1 x2 x3 y0 y1 y2 y3 hp4 hW5 hW6 hF5 hF6 hk5 hk6 hW8 hW9 hB7 j0 j1 j2 j3
    go_wp2
    go_roundw
    case rel => exact ⟨k + 1, ps', _, A5, k5, c5, false, A6, k6, c6, by omega, by go_num, HF.out⟩
    case measure => simp [intOf]; omega
  ·obtain rfl : k = n := by omega
   obtain ⟨hB, hBx, hQx, hRow, hPs⟩ := hR.out
   clear hR
   go_wp2
   go_ret2
   exact ⟨g + 1, ps, rfl, hRow, hPs, by omega, hB⟩

end Go.Proofs.YtjajigkacccdgaaGreat
