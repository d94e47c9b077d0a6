/-
Contracts of package energy: Check and Range. Rows of rationals of any level as arguments; what check of package reserve answers. A statement that draws its order, reads, and calls what makes new memory alone: walked once, in the order of the text. No statement of the seat is proved here; no conditions beyond those of each theorem.
-/
import Derived.Test.YtodkhjihkkmplaaGreatLU1
import Derived.Test.YtodkhjihkkmplaaGreatLPN
import Derived.Test.YtodkhjihkkmplaaGreatLPA
namespace Go.Proofs.YtodkhjihkkmplaaGreat
set_option linter.unusedVariables false
set_option linter.unusedSimpArgs false
open Go.RowKit
open Wd

def U0 : Un := ⟨0, 0, [], 0, 0, 0, 0, 0, 0⟩
/-- The nine cells from offset o on are the unit u. -/
def UnCells (w : World) (b o : Nat) (u : Un) : Prop := ∃ A' n' c', (w.cell? ⟨b, o, none⟩ = some (.int .i64 u.bus) ∧ w.cell? ⟨b, o + 1, none⟩ = some (.int .i64 u.mn) ∧ w.cell? ⟨b, o + 2, none⟩ = some (.slice A' n' c') ∧ w.cell? ⟨b, o + 3, none⟩ = some (.int .i64 u.up) ∧ w.cell? ⟨b, o + 4, none⟩ = some (.int .i64 u.dn) ∧ w.cell? ⟨b, o + 5, none⟩ = some (.int .i64 u.start) ∧ w.cell? ⟨b, o + 6, none⟩ = some (.int .i64 u.idle) ∧ w.cell? ⟨b, o + 7, none⟩ = some (.int .i64 u.spin) ∧ w.cell? ⟨b, o + 8, none⟩ = some (.int .i64 u.on)) ∧ StAt w A' n' u.st ∧ n' ≤ 1000000000000
/-- The slice value with address A and length n reads as the units us. -/
def UsAt (w : World) (A : Option Addr) (n : Nat) (us : List Un) : Prop :=
 us.length = n ∧ (n ≠ 0 → ∃ b o, A = some ⟨b, o, none⟩ ∧ b < w.heap.size ∧ ∀ j, j < n → UnCells w b (o + j * 9) (us[j]?.getD U0))
/-- The slice value reads as the booleans bs. -/
def BsAt (w : World) (A : Option Addr) (n : Nat) (bs : List Bool) : Prop :=
 bs.length = n ∧ (n ≠ 0 → ∃ b o, A = some ⟨b, o, none⟩ ∧ b < w.heap.size ∧ ∀ j, j < n → w.cell? ⟨b, o + j, none⟩ = some (.bool (bs[j]?.getD false)))
theorem UnCells.below {w w' : World} {b o : Nat} {u : Un} (h : UnCells w b o u) (hlt : b < w.heap.size) (hb : Below w.heap.size w w') : UnCells w' b o u := by
 obtain ⟨A', n', c', ⟨h0, h1, h2, h3, h4, h5, h6, h7, h8⟩, hs, hn⟩ := h
 exact ⟨A', n', c', ⟨(hb.cell hlt).trans h0, (hb.cell hlt).trans h1, (hb.cell hlt).trans h2, (hb.cell hlt).trans h3, (hb.cell hlt).trans h4, (hb.cell hlt).trans h5, (hb.cell hlt).trans h6, (hb.cell hlt).trans h7, (hb.cell hlt).trans h8⟩, hs.below hb, hn⟩
theorem UsAt.below {w w' : World} {A : Option Addr} {n : Nat} {us : List Un} (h : UsAt w A n us) (hb : Below w.heap.size w w') : UsAt w' A n us := by
 refine ⟨h.1, fun hn => ?_⟩
 obtain ⟨b, o, rfl, hlt, hc⟩ := h.2 hn
 exact ⟨b, o, rfl, Nat.lt_of_lt_of_le hlt hb.size, fun j hj => (hc j hj).below hlt hb⟩
theorem BsAt.below {w w' : World} {A : Option Addr} {n : Nat} {bs : List Bool} (h : BsAt w A n bs) (hb : Below w.heap.size w w') : BsAt w' A n bs := by
 refine ⟨h.1, fun hn => ?_⟩
 obtain ⟨b, o, rfl, hlt, hc⟩ := h.2 hn
 exact ⟨b, o, rfl, Nat.lt_of_lt_of_le hlt hb.size, fun j hj => (hb.cell hlt).trans (hc j hj)⟩

/-- The first unit's error. -/
def ecFrom : List Un → Int
 | [] => 0
 | u :: r => if uchk u = 0 then ecFrom r else uchk u
def echk (us : List Un) (m : Nat) : Int := if 5 < us.length then 5 else if ecFrom us ≠ 0 then ecFrom us else if m ≠ us.length then 3 else 0
theorem ecFrom_ok {u : Un} {r : List Un} (h : uchk u = 0) : ecFrom (u :: r) = ecFrom r := by rw [ecFrom, if_pos h]
theorem ecFrom_bad {u : Un} {r : List Un} (h : uchk u ≠ 0) : ecFrom (u :: r) = uchk u := by rw [ecFrom, if_neg h]
theorem dropU {l : List Un} {k : Nat} (hk : k < l.length) : l.drop k = (l[k]?.getD U0) :: l.drop (k + 1) := by
 rw [List.drop_eq_getElem_cons hk, List.getElem?_eq_getElem hk]; rfl

set_option maxRecDepth 100000 in
set_option maxHeartbeats 4000000 in
theorem echeck_any (A B : Option Addr) (n c m d : Nat) (us : List Un) (bs : List Bool) (w : World) (h : UsAt w A n us) (h' : BsAt w B m bs) (hm : n ≤ 1000000000000) (hm' : m ≤ 1000000000000) :
  Calls Tryz.prog 68 #[.slice A n c, .slice B m d] w fun e w' => e = .returned (.int .i64 (echk us m)) ∧ Below w.heap.size w w' := by
 by_cases h5 : 5 < n
 ·have e : echk us m = 5 := by unfold echk; rw [if_pos (by rw [h.1]; exact h5)]
  rw [e]
  go_enter Tryz.func68, Tryz.ntmps68
  go_wp2
  go_ret
  exact ⟨rfl, Below.refl _ _⟩
 ·have e : echk us m = if ecFrom us ≠ 0 then ecFrom us else if m ≠ n then 3 else 0 := by unfold echk; rw [if_neg (by rw [h.1]; exact h5), h.1]
  have HE := Lib.hid e
  obtain ⟨hl, hc⟩ := h
  have HL := Lib.hid hl
  have HC := Lib.hid hc
  clear e hl hc h'
  go_enter Tryz.func68, Tryz.ntmps68
  go_wp2_with fail
  go_loopw [13] (fun t wr => ∃ k : Nat, k ≤ n ∧ t = .int .i64 k ∧ Hid (ecFrom us = ecFrom (us.drop k)) ∧ Hid (Below w.heap.size w wr)) (fun t _ => n - (intOf t).toNat)
  case atStart => exact ⟨0, Nat.zero_le _, rfl, rfl, Below.refl _ _⟩
  case round =>
   obtain ⟨k, hk, rfl, hR, hB⟩ := hrel
   by_cases hlt : k < n
   ·obtain ⟨b, o, rfl, hb, hcell⟩ := HC.out (by omega)
    have hu := (hcell k hlt).below hb hB.out
    have hdr := dropU (l := us) (k := k) (by rw [HL.out]; exact hlt)
    generalize us[k]?.getD U0 = u at *
    obtain ⟨bus, mn, st, up, dn, start, idle, spin, on⟩ := u
    obtain ⟨A', n', c', ⟨h0, h1, h2, h3, h4, h5', h6, h7, h8⟩, hs, hn'⟩ := hu
    simp only at h0 h1 h2 h3 h4 h5' h6 h7 h8 hs
    have hbr : b < wr.heap.size := Nat.lt_of_lt_of_le hb hB.out.size
    have HDR := Lib.hid hdr
    clear hdr hcell
    have T := fun W hW => ucheck_raw bus mn up dn start idle spin on A' n' c' st W hW hn'
    have hs9 := hs.below ((Below.refl _ wr).alloc (Nat.le_refl _) (.cells #[.int .i64 bus, .int .i64 mn, .slice A' n' c', .int .i64 up, .int .i64 dn, .int .i64 start, .int .i64 idle, .int .i64 spin, .int .i64 on] 48))
    have hb9 := hB.out.alloc hB.out.size (.cells #[.int .i64 bus, .int .i64 mn, .slice A' n' c', .int .i64 up, .int .i64 dn, .int .i64 start, .int .i64 idle, .int .i64 spin, .int .i64 on] 48)
    have HB9 := Lib.hid hb9
    have HS9 := Lib.hid hs9
    clear hb9 hs9
    by_cases hz : uchk ⟨bus, mn, st, up, dn, start, idle, spin, on⟩ = 0
    ·have hnew : ecFrom us = ecFrom (us.drop (k + 1)) := by rw [hR.out, HDR.out]; exact ecFrom_ok hz
     rw [hz] at T
     have T := Lib.hid T
     have HN := Lib.hid hnew
     clear hz hnew
     go_wp2_with fail
     refine (T.out _ HS9.out).mono ?_
     rintro e w2 ⟨rfl, hb2⟩
     have hb3 : Below w.heap.size w w2 := HB9.out.trans (hb2.mono HB9.out.size)
     have HB3 := Lib.hid hb3
     clear hb2 hb3 h0 h1 h2 h3 h4 h5' h6 h7 h8
     go_wp2
     go_roundw
     case rel => exact ⟨k + 1, by omega, by go_num, HN.out, HB3.out⟩
     case measure => simp [intOf]; omega
    ·have hx : ecFrom us = uchk ⟨bus, mn, st, up, dn, start, idle, spin, on⟩ := by rw [hR.out, HDR.out]; exact ecFrom_bad hz
     have hfin : echk us m = uchk ⟨bus, mn, st, up, dn, start, idle, spin, on⟩ := by rw [HE.out, if_pos (by rw [hx]; exact hz), hx]
     generalize uchk ⟨bus, mn, st, up, dn, start, idle, spin, on⟩ = x at *
     have hxz : (x != 0) = true := by simpa using hz
     have T := Lib.hid T
     have HF := Lib.hid hfin
     clear hz hx hfin
     go_wp2_with fail
     refine (T.out _ HS9.out).mono ?_
     rintro e w2 ⟨rfl, hb2⟩
     have hb3 : Below w.heap.size w w2 := HB9.out.trans (hb2.mono HB9.out.size)
     clear hb2 h0 h1 h2 h3 h4 h5' h6 h7 h8
     go_wp2
     go_ret
     rw [HF.out]
     exact ⟨rfl, hb3⟩
   ·obtain rfl : k = n := by omega
    have hz : ecFrom us = 0 := by rw [hR.out, List.drop_of_length_le (by rw [HL.out]; exact Nat.le_refl _)]; rfl
    have hfin : echk us m = if m ≠ k then (3 : Int) else 0 := by rw [HE.out, if_neg (by rw [hz]; simp)]
    have HF := Lib.hid hfin
    clear hz hfin
    by_cases hmk : m = k
    ·have hne : ((m : Int) != (k : Int)) = false := by simp; omega
     go_wp2
     go_ret
     rw [HF.out, if_neg (by omega)]
     exact ⟨rfl, hB.out⟩
    ·have hne : ((m : Int) != (k : Int)) = true := by simp; omega
     go_wp2
     go_ret
     rw [HF.out, if_pos hmk]
     exact ⟨rfl, hB.out⟩





theorem echk_ok {us : List Un} {m : Nat} (h : echk us m = 0) : us.length ≤ 5 ∧ m = us.length ∧ ∀ u ∈ us, uchk u = 0 := by
 unfold echk at h
 by_cases h5 : 5 < us.length
 ·rw [if_pos h5] at h; cases h
 ·rw [if_neg h5] at h
  by_cases he : ecFrom us ≠ 0
  ·rw [if_pos he] at h; exact absurd h he
  ·rw [if_neg he] at h
   have he' : ecFrom us = 0 := Classical.byContradiction he
   refine ⟨by omega, ?_, ?_⟩
   ·by_cases hm : m ≠ us.length
    ·rw [if_pos hm] at h; cases h
    ·exact Classical.byContradiction hm
   ·clear h h5 he
    induction us with
    | nil => intro u hu; cases hu
    | cons x r ih =>
     intro u hu
     by_cases hx : uchk x = 0
     ·rw [ecFrom_ok hx] at he'
      rcases List.mem_cons.1 hu with rfl | hu
      ·exact hx
      ·exact ih he' u hu
     ·rw [ecFrom_bad hx] at he'; exact absurd he' hx
theorem uchk_ok {u : Un} (h : uchk u = 0) : chk true u.st = 0 ∧ 0 ≤ u.mn ∧ u.mn ≤ qsum u.st ∧ qsum u.st ≤ 3000000 ∧ 0 ≤ qsum u.st ∧ umax u = qsum u.st := by
 unfold uchk at h
 by_cases h1 : u.bus < 0 ∨ 6 ≤ u.bus
 ·rw [if_pos h1] at h; cases h
 ·rw [if_neg h1] at h
  by_cases h2 : chk true u.st = 0
  ·rw [if_neg (by intro hh; exact hh h2)] at h
   by_cases h3 : u.mn < 0 ∨ qsum u.st < u.mn
   ·rw [if_pos h3] at h; cases h
   ·obtain ⟨_, hl, _, hb⟩ := chk_ok h2
    have := qsum_bd u.st hb
    refine ⟨h2, by omega, by omega, by omega, by omega, ?_⟩
    unfold umax; rw [if_pos h2]
  ·rw [if_pos h2] at h; exact absurd h h2

end Go.Proofs.YtodkhjihkkmplaaGreat
namespace Go.Proofs.YtodkhjihkkmplaaGreat
open Go.RowKit
open Wd
/-- The slice value reads as the rationals qs, of level k. -/
def GsAt (k : Nat) (w : World) (C : Option Addr) (p : Nat) (qs : List Rat) : Prop :=
 qs.length = p ∧ (p ≠ 0 → ∃ b o, C = some ⟨b, o, none⟩ ∧ b < w.heap.size ∧ ∀ j, j < p → ∃ an aA ak ac an' aA' ak' ac', w.cell? ⟨b, o + j * 4, none⟩ = some (.bool an) ∧ w.cell? ⟨b, o + j * 4 + 1, none⟩ = some (.slice aA ak ac) ∧
  w.cell? ⟨b, o + j * 4 + 2, none⟩ = some (.bool an') ∧ w.cell? ⟨b, o + j * 4 + 3, none⟩ = some (.slice aA' ak' ac') ∧ QK k w an aA ak ac an' aA' ak' ac' (qs[j]?.getD 0))
theorem GsAt.below {k : Nat} {w w' : World} {C : Option Addr} {p : Nat} {qs : List Rat} (h : GsAt k w C p qs) (hb : Below w.heap.size w w') : GsAt k w' C p qs := by
 refine ⟨h.1, fun hn => ?_⟩
 obtain ⟨b, o, rfl, hlt, hc⟩ := h.2 hn
 refine ⟨b, o, rfl, Nat.lt_of_lt_of_le hlt hb.size, fun j hj => ?_⟩
 obtain ⟨an, aA, ak, ac, an', aA', ak', ac', h1, h2, h3, h4, h5⟩ := hc j hj
 exact ⟨an, aA, ak, ac, an', aA', ak', ac', (hb.cell hlt).trans h1, (hb.cell hlt).trans h2, (hb.cell hlt).trans h3, (hb.cell hlt).trans h4, h5.below hb⟩

/-- The greatest output of a unit that is on. -/
def mostV (b : Bool) (u : Un) : Int := if b then umax u else 0
/-- A unit's production is refused. -/
def gbad (u : Un) (b : Bool) (q : Rat) : Bool := decide (sgnQ q < 0) || decide (0 < cmpQ q (mostV b u : Rat))
/-- No production of the first k is refused. -/
def gokN (us : List Un) (bs : List Bool) (qs : List Rat) (k : Nat) : Prop := ∀ j, j < k → gbad (us[j]?.getD U0) (bs[j]?.getD false) (qs[j]?.getD 0) = false
instance (us : List Un) (bs : List Bool) (qs : List Rat) (k : Nat) : Decidable (gokN us bs qs k) := by unfold gokN; infer_instance
theorem gokN.succ {us : List Un} {bs : List Bool} {qs : List Rat} {k : Nat} (h : gokN us bs qs k) (hk : gbad (us[k]?.getD U0) (bs[k]?.getD false) (qs[k]?.getD 0) = false) : gokN us bs qs (k + 1) := fun j hj => by
 rcases Nat.lt_or_ge j k with h1 | h1
 ·exact h j h1
 ·obtain rfl : j = k := by omega
  exact hk
/-- What check answers. -/
def rchk (us : List Un) (bs : List Bool) (qs : List Rat) (need : Int) : Int :=
 if echk us bs.length ≠ 0 then echk us bs.length else if qs.length ≠ us.length then 3 else if ¬ gokN us bs qs us.length then 1 else if need < 0 ∨ 1000000 < need then 1 else 0
theorem rchk_ok {us : List Un} {bs : List Bool} {qs : List Rat} {need : Int} (h : rchk us bs qs need = 0) : echk us bs.length = 0 ∧ qs.length = us.length ∧ gokN us bs qs us.length ∧ 0 ≤ need ∧ need ≤ 1000000 := by
 unfold rchk at h
 split at h
 ·rename_i h1; exact absurd h h1
 ·rename_i h1
  split at h
  ·exact absurd h (by decide)
  ·rename_i h2
   split at h
   ·exact absurd h (by decide)
   ·rename_i h3
    split at h
    ·exact absurd h (by decide)
    ·exact ⟨Decidable.not_not.1 h1, Decidable.not_not.1 h2, Decidable.not_not.1 h3, by omega, by omega⟩
theorem mostV_bd {us : List Un} {m : Nat} (h : echk us m = 0) {j : Nat} (hj : j < us.length) (b : Bool) : 0 ≤ mostV b (us[j]?.getD U0) ∧ mostV b (us[j]?.getD U0) ≤ 3000000 := by
 obtain ⟨_, _, hu⟩ := echk_ok h
 have hm : us[j]?.getD U0 ∈ us := by
  rw [List.getElem?_eq_getElem hj]
  exact List.getElem_mem hj
 obtain ⟨_, _, _, h1, h2, h3⟩ := uchk_ok (hu _ hm)
 unfold mostV
 cases b
 ·simp
 ·simp only [if_true]; omega

end Go.Proofs.YtodkhjihkkmplaaGreat

namespace Go.Proofs.YtodkhjihkkmplaaGreat
set_option linter.unusedVariables false
set_option linter.unusedSimpArgs false
open Go.RowKit

/-- A world in which nothing of W has turned. -/
structure KW (W : World) where
 w : World
 h : Kp W w
instance KW.some (W : World) : Nonempty (KW W) := ⟨⟨W, Kp.refl W⟩⟩
theorem wp_region_kw {P : Program} {id : Nat} {Q : Exit → Act → World → Prop} {a : Act} {W : World} {l : List Oper} (hm : P.follows .mixedOrders = true) (hB : Region.lexB .any l.toArray = true)
  (h : wpQuiet P l.toArray (fun w' => ∃ s : KW W, w' = s.w) (fun a' => ∀ w', (∃ s : KW W, w' = s.w) → Q .normal a' w') l a) : (Code.region id l.toArray true).wp P Q a W :=
 wp_region_quiet (C := fun w' => ∃ s : KW W, w' = s.w) hm hB ⟨⟨W.drew, Kp.drew (Kp.refl W)⟩, rfl⟩ (by simpa using h)
theorem kw_call {P : Program} {f : FuncId} {args : Array Value} {W : World} {s : KW W} {v : Value} (h : Calls P f args s.w fun e w' => e = .returned v ∧ Below s.w.heap.size s.w w') :
  Calls P f args s.w fun e w'' => e = .returned v ∧ ∃ s' : KW W, w'' = s'.w :=
 h.mono fun _ w' ⟨he, hb⟩ => ⟨he, ⟨w', Kp.trans s.h hb⟩, rfl⟩
theorem KW.cell {W : World} {g : Nat} {t : TypeId} {cs : Array Value} (h : Blk W g t cs) (i : Nat) (s : KW W) : s.w.cell? ⟨g, i, none⟩ = cs[i]? := (Kp.blk s.h h).cell i

end Go.Proofs.YtodkhjihkkmplaaGreat
