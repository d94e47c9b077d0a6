/-
willing of package step, at any price. Long of layer 23: rationals larger than the statements consider. Plain law of StackAggregation; the argument of a statement that is a rational. The statements of layer 24: Long, stacked. The statements of layer 24: stacked. No statement of the seat is proved here; no conditions beyond those of each theorem.
-/
import Derived.Test.YtjajigkacccdgaaGreatTbBL
import Derived.Test.YtjajigkacccdgaaGreatTbBJ
namespace Go.Proofs.YtjajigkacccdgaaGreat
set_option linter.unusedVariables false
set_option linter.unusedSimpArgs false
open Go.RowKit
open Wd

/-- A rational in any form, of any size. -/
def QArg (w : World) (an : Bool) (aA : Option Addr) (ak ac : Nat) (an' : Bool) (aA' : Option Addr) (ak' ac' : Nat) (q : Rat) : Prop := ∃ Nn Nd, QAt Nn Nd w an aA ak ac an' aA' ak' ac' q
theorem QArg.below {w w' : World} {an an' : Bool} {aA aA' : Option Addr} {ak ac ak' ac' : Nat} {q : Rat} (h : QArg w an aA ak ac an' aA' ak' ac' q) (hb : Below w.heap.size w w') : QArg w' an aA ak ac an' aA' ak' ac' q := by
 obtain ⟨Nn, Nd, h⟩ := h
 exact ⟨Nn, Nd, h.below hb⟩
theorem QAt.more {Nn Nd Mn Md : Nat} {w : World} {an an' : Bool} {aA aA' : Option Addr} {ak ac ak' ac' : Nat} {q : Rat} (h : QAt Nn Nd w an aA ak ac an' aA' ak' ac' q) (hn : Nn ≤ Mn) (hd : Nd ≤ Md) : QAt Mn Md w an aA ak ac an' aA' ak' ac' q := by
 obtain ⟨na, da, h1, h2, h3, h4⟩ := h
 exact ⟨na, da, h1, by omega, by omega, h4⟩
theorem qcmp_arg (an an' bn bn' : Bool) (aA aA' bA bA' : Option Addr) (ak ac ak' ac' bk bc bk' bc' : Nat) (qa qb : Rat) (w : World) (ha : QArg w an aA ak ac an' aA' ak' ac' qa) (hb : QArg w bn bA bk bc bn' bA' bk' bc' qb) :
  Calls Tryz.prog 43 #[.agg #[.bool an, .slice aA ak ac, .bool an', .slice aA' ak' ac'], .agg #[.bool bn, .slice bA bk bc, .bool bn', .slice bA' bk' bc']] w fun e w' => e = .returned (.int .i64 (cmpQ qa qb)) ∧ Below w.heap.size w w' := by
 obtain ⟨N1, D1, h1⟩ := ha
 obtain ⟨N2, D2, h2⟩ := hb
 exact qcmp_any an an' bn bn' aA aA' bA bA' ak ac ak' ac' bk bc bk' bc' qa qb w (h1.more (Mn := max N1 N2) (Md := max D1 D2) (by omega) (by omega)) (h2.more (by omega) (by omega))
theorem WQ.arg {w : World} {z : Int} {A A' : Option Addr} {k c k' c' : Nat} (h : WQ w (z : Rat) A k c A' k' c') (hz : z.natAbs < 1000000000000) : QArg w (decide (((z : Int) : Rat).num < 0)) A k c false A' k' c' (z : Rat) :=
 ⟨_, _, h.at (by rw [Rat.num_intCast]; omega) (by rw [Rat.den_intCast]; omega)⟩

/-- The quantities on one side of a price, without and with those at it. -/
def wlL (side : Int) (q : Rat) (l : List (Int × Int)) : Int := sumI (l.map fun s => if cmpQ (s.2 : Rat) q = side then s.1 else 0)
def wlM (side : Int) (q : Rat) (l : List (Int × Int)) : Int := sumI (l.map fun s => if cmpQ (s.2 : Rat) q = side ∨ cmpQ (s.2 : Rat) q = 0 then s.1 else 0)
theorem wlL_snoc {side : Int} {q : Rat} {l : List (Int × Int)} {k : Nat} (hk : k < l.length) : wlL side q (l.take (k + 1)) = wlL side q (l.take k) + if cmpQ (((l[k]?.getD (0, 0)).2 : Int) : Rat) q = side then (l[k]?.getD (0, 0)).1 else 0 := by
 unfold wlL
 rw [take_snocS hk, List.map_append]
 exact sumI_snoc _ _
theorem wlM_snoc {side : Int} {q : Rat} {l : List (Int × Int)} {k : Nat} (hk : k < l.length) : wlM side q (l.take (k + 1)) = wlM side q (l.take k) + if cmpQ (((l[k]?.getD (0, 0)).2 : Int) : Rat) q = side ∨ cmpQ (((l[k]?.getD (0, 0)).2 : Int) : Rat) q = 0 then (l[k]?.getD (0, 0)).1 else 0 := by
 unfold wlM
 rw [take_snocS hk, List.map_append]
 exact sumI_snoc _ _
theorem wl_bd : ∀ {l : List (Int × Int)} (side : Int) (q : Rat), (∀ s ∈ l, ¬ Bad s.1 s.2) → (0 ≤ wlL side q l ∧ wlL side q l ≤ 1000000 * (l.length : Int)) ∧ (0 ≤ wlM side q l ∧ wlM side q l ≤ 1000000 * (l.length : Int))
 | [], side, q, _ => by simp [wlL, wlM, sumI]
 | s :: l, side, q, h => by
  have h1 := h s (List.mem_cons_self ..)
  have h2 := wl_bd (l := l) side q fun y hy => h y (List.mem_cons_of_mem _ hy)
  unfold Bad at h1
  unfold wlL wlM at *
  rw [List.map_cons, List.map_cons, sumI, sumI, List.length_cons]
  constructor <;> split <;> omega

set_option maxRecDepth 100000 in
set_option maxHeartbeats 8000000 in
theorem willing_any (side : Int) (A : Option Addr) (n c : Nat) (l : List (Int × Int)) (an an' : Bool) (aA aA' : Option Addr) (ak ac ak' ac' : Nat) (q : Rat) (w : World) (h : StAt w A n l) (hq : QArg w an aA ak ac an' aA' ak' ac' q) (hn : n ≤ 3) (hb : ∀ s ∈ l, ¬ Bad s.1 s.2) :
  Calls Tryz.prog 199 #[.slice A n c, .agg #[.bool an, .slice aA ak ac, .bool an', .slice aA' ak' ac'], .int .i64 side] w fun e w' => e = .returned (.tuple #[.int .i64 (wlL side q l), .int .i64 (wlM side q l)]) ∧ Below w.heap.size w w' := by
 have HX := Lib.hid h
 have HLN := Lib.hid h.1
 have HB := Lib.hid hb
 have HQ := Lib.hid hq
 clear h hb hq
 go_enter Tryz.func199, Tryz.ntmps199
 go_wp2_with fail
 have hbx := Blk.new w 42 #[.bool an, .slice aA ak ac, .bool an', .slice aA' ak' ac']
 have hb0 : Below w.heap.size w (w.alloc (.cells #[.bool an, .slice aA ak ac, .bool an', .slice aA' ak' ac'] 42)) := (Below.refl _ _).alloc (Nat.le_refl _) _
 generalize w.alloc (.cells #[.bool an, .slice aA ak ac, .bool an', .slice aA' ak' ac'] 42) = W0 at *
 have HST := Lib.hid (And.intro hb0 hbx)
 clear hb0 hbx
 go_loopw [6, 7, 12] (fun tl tm t wr => ∃ k : Nat, k ≤ n ∧ t = .int .i64 k ∧ tl = .int .i64 (wlL side q (l.take k)) ∧ tm = .int .i64 (wlM side q (l.take k)) ∧ Hid (Below w.heap.size w wr ∧ Blk wr w.heap.size 42 #[.bool an, .slice aA ak ac, .bool an', .slice aA' ak' ac'])) (fun _ _ t _ => n - (intOf t).toNat)
 case atStart => exact ⟨0, Nat.zero_le _, rfl, rfl, rfl, HST.out⟩
 case round =>
  obtain ⟨k, hk, rfl, rfl, rfl, hR⟩ := hrel
  by_cases hlt : k < n
  ·obtain ⟨hBW, hBX⟩ := hR.out
   obtain ⟨b, o, rfl, hb, hc⟩ := HX.out.2.2 (by omega)
   obtain ⟨y0, y1⟩ := hc k hlt
   have hkl : k < l.length := by rw [HLN.out]; exact hlt
   have hbad := HB.out _ (getD_mem (d := ((0, 0) : Int × Int)) hkl)
   have s1 := wlL_snoc (side := side) (q := q) hkl
   have s2 := wlM_snoc (side := side) (q := q) hkl
   obtain ⟨bd1, bd2⟩ := wl_bd (l := l.take k) side q fun s hs => HB.out s (List.mem_of_mem_take hs)
   have hl2 := List.length_take_le k l
   generalize (l[k]?.getD (0, 0)).1 = s at *
   generalize (l[k]?.getD (0, 0)).2 = p at *
   replace y0 := (hBW.cell (p := ⟨b, o + k * 2, none⟩) hb).trans y0
   replace y1 := (hBW.cell (p := ⟨b, o + k * 2 + 1, none⟩) hb).trans y1
   unfold Bad at hbad
   have hFI := fun W => qfromInt64_any p W (by omega) (by omega)
   have hW1 : Below w.heap.size w (wr.alloc (.cells #[.int .i64 s, .int .i64 p] 107)) := hBW.alloc hBW.size _
   have hCM := fun W (hW : Kp (wr.alloc (.cells #[.int .i64 s, .int .i64 p] 107)) W) (A2 A3 : Option Addr) (k2 c2 k3 c3 : Nat) (h2 : WQ W ((p : Int) : Rat) A2 k2 c2 A3 k3 c3) => qcmp_arg _ false an an' A2 A3 aA aA' k2 c2 k3 c3 ak ac ak' ac' ((p : Int) : Rat) q W (h2.arg (by omega)) (HQ.out.below (hW1.trans (Below.mono hW hW1.size)))
   have m1 := Blk.new wr 107 #[.int .i64 s, .int .i64 p]
   have m2 := hBX.alloc (.cells #[.int .i64 s, .int .i64 p] 107)
   have k1 : (0 : Int) ≤ (k : Int) := by omega
   have k2 : (k : Int) < (n : Int) := by omega
   generalize cmpQ ((p : Int) : Rat) q = cv at *
   generalize ((p : Int) : Rat) = pq at *
   generalize wlL side q (l.take k) = vl at *
   generalize wlM side q (l.take k) = vm at *
   have xl : IntKind.i64.wrap (vl + s) = vl + s := IntWalk.i64_in _ (by omega)
   have xm : IntKind.i64.wrap (vm + s) = vm + s := IntWalk.i64_in _ (by omega)
   have HS1 := Lib.hid s1
   have HS2 := Lib.hid s2
   have HFI := Lib.hid hFI
   have HCM := Lib.hid hCM
   have HM := Lib.hid (And.intro hW1 (And.intro m1 m2))
   clear hc hkl hbad bd1 bd2 hl2 s1 s2 hFI hCM hR hBW hBX hW1
   go_wp2_with fail
   have hS : ∀ w', Kp (wr.alloc (.cells #[.int .i64 s, .int .i64 p] 107)) w' → (w'.cell? ⟨wr.heap.size, 1, none⟩ = some (.int .i64 p) ∧ w'.cell? ⟨w.heap.size, 0, none⟩ = some (.bool an) ∧ w'.cell? ⟨w.heap.size, 1, none⟩ = some (.slice aA ak ac) ∧ w'.cell? ⟨w.heap.size, 2, none⟩ = some (.bool an') ∧ w'.cell? ⟨w.heap.size, 3, none⟩ = some (.slice aA' ak' ac')) ∧ Kp (wr.alloc (.cells #[.int .i64 s, .int .i64 p] 107)) w' := fun w' hk =>
    ⟨⟨(hk.blk m1).cell 1, (hk.blk m2).cell 0, (hk.blk m2).cell 1, (hk.blk m2).cell 2, (hk.blk m2).cell 3⟩, hk⟩
   have HS := Lib.hid hS
   have hk0 := Kp.refl (wr.alloc (.cells #[.int .i64 s, .int .i64 p] 107))
   clear hS m1 m2 y0 y1
   generalize wr.alloc (.cells #[.int .i64 s, .int .i64 p] 107) = W at *
   go_region_held3 (fun w' => (w'.cell? ⟨wr.heap.size, 1, none⟩ = some (.int .i64 p) ∧ w'.cell? ⟨w.heap.size, 0, none⟩ = some (.bool an) ∧ w'.cell? ⟨w.heap.size, 1, none⟩ = some (.slice aA ak ac) ∧ w'.cell? ⟨w.heap.size, 2, none⟩ = some (.bool an') ∧ w'.cell? ⟨w.heap.size, 3, none⟩ = some (.slice aA' ak' ac')) ∧ Kp W w')
    (first | (with_reducible refine HS.out _ ?_; with_reducible assumption) | (with_reducible refine HS.out _ (Kp.drew ?_); with_reducible assumption) | (with_reducible refine' HS.out _ (Kp.drew (And.right _)); rotate_left; with_reducible assumption))
    (first
     | (go_at_call 40; have hk := And.right ‹_ ∧ Kp W _›; refine (HFI.out _).mono ?_; rintro e v2 ⟨A2, k2, c2, A3, k3, c3, rfl, h2, h3, hW2, hW3, -, -, hb2⟩; have hk2 := Kp.trans hk hb2; have HWQ := Lib.hid (⟨h2, h3, hW2, hW3⟩ : WQ v2 pq A2 k2 c2 A3 k3 c3); clear hb2 h2 h3 hW2 hW3)
     | (go_at_call 43; have hk := And.right ‹_ ∧ Kp W _›; refine (HCM.out _ hk _ _ _ _ _ _ HWQ.out).mono ?_; rintro e v3 ⟨rfl, hb3⟩; have hk3 := Kp.trans hk hb3; clear hb3))
   have hfin : Below w.heap.size w v3 ∧ Blk v3 w.heap.size 42 #[.bool an, .slice aA ak ac, .bool an', .slice aA' ak' ac'] := ⟨HM.out.1.trans (Below.mono hk3 HM.out.1.size), hk3.blk HM.out.2.2⟩
   have hs0 := (hk3.blk HM.out.2.1).cell 0
   simp at hs0
   have HF := Lib.hid hfin
   clear hfin hk0 hk2 hk3 HS HFI HCM HWQ HM
   by_cases hside : cv = side
   ·have d1 : (cv == side) = true := by simpa using hside
    have e1 := HS1.out
    have e2 := HS2.out
    rw [if_pos hside] at e1
    rw [if_pos (Or.inl hside)] at e2
    have E1 := Lib.hid e1
    have E2 := Lib.hid e2
    clear e1 e2 HS1 HS2 hside
    go_wp2
    go_roundw
    case rel => exact ⟨k + 1, by omega, by go_num, by rw [E1.out], by rw [E2.out], HF.out⟩
    case measure => simp [intOf]; omega
   ·have d1 : (cv == side) = false := beq_false_of_ne hside
    have e1 := HS1.out
    rw [if_neg hside, Int.add_zero] at e1
    have E1 := Lib.hid e1
    by_cases hz : cv = 0
    ·have d2 : (cv == 0) = true := by simpa using hz
     have e2 := HS2.out
     rw [if_pos (Or.inr hz)] at e2
     have E2 := Lib.hid e2
     clear e1 e2 HS1 HS2 hside hz
     go_wp2
     go_roundw
     case rel => exact ⟨k + 1, by omega, by go_num, by rw [E1.out], by rw [E2.out], HF.out⟩
     case measure => simp [intOf]; omega
    ·have d2 : (cv == 0) = false := beq_false_of_ne hz
     have e2 := HS2.out
     rw [if_neg (by rintro (h | h); exact hside h; exact hz h), Int.add_zero] at e2
     have E2 := Lib.hid e2
     clear e1 e2 HS1 HS2 hside hz
     go_wp2
     go_roundw
     case rel => exact ⟨k + 1, by omega, by go_num, by rw [E1.out], by rw [E2.out], HF.out⟩
     case measure => simp [intOf]; omega
  ·obtain rfl : k = n := by omega
   rw [List.take_of_length_le (by rw [HLN.out]; exact Nat.le_refl _)]
   have HF := Lib.hid hR.out.1
   clear hR
   go_wp2
   go_ret2
   exact ⟨rfl, HF.out⟩


set_option maxRecDepth 100000 in
set_option maxHeartbeats 4000000 in
theorem supplyAt_any (A : Option Addr) (n c : Nat) (l : List (Int × Int)) (an an' : Bool) (aA aA' : Option Addr) (ak ac ak' ac' : Nat) (q : Rat) (w : World) (h : StAt w A n l) (hq : QArg w an aA ak ac an' aA' ak' ac' q) (hk : chk true l = 0) :
  Calls Tryz.prog 150 #[.slice A n c, .agg #[.bool an, .slice aA ak ac, .bool an', .slice aA' ak' ac']] w fun e w' => e = .returned (.tuple #[.int .i64 (wlL (-1) q l), .int .i64 (wlM (-1) q l), .int .i64 0]) ∧ Below w.heap.size w w' := by
 have hok := chk_ok hk
 have hn : n ≤ 3 := by rw [← h.1]; exact hok.2.1
 have HX := Lib.hid h
 have HC := Lib.hid (fun W (hW : Below w.heap.size w W) => checkOffer_any A n c l W (h.below hW) (by omega))
 rw [hk] at HC
 have HW := Lib.hid (fun W (hW : Below w.heap.size w W) => willing_any (-1) A n c l an an' aA aA' ak ac ak' ac' q W (h.below hW) (hq.below hW) hn hok.2.2.2)
 clear h hq hk hok
 go_enter Tryz.func150, Tryz.ntmps150
 go_wp2_with fail
 have hbx := Blk.new w 42 #[.bool an, .slice aA ak ac, .bool an', .slice aA' ak' ac']
 have hb0 : Below w.heap.size w (w.alloc (.cells #[.bool an, .slice aA ak ac, .bool an', .slice aA' ak' ac'] 42)) := (Below.refl _ _).alloc (Nat.le_refl _) _
 generalize w.alloc (.cells #[.bool an, .slice aA ak ac, .bool an', .slice aA' ak' ac'] 42) = W0 at *
 refine (HC.out W0 hb0).mono ?_
 rintro e w1 ⟨rfl, hb1⟩
 have hbx1 := hbx.below hb1 hbx.lt
 obtain ⟨c0, c1, c2, c3, -, -, -, -⟩ := hbx1.four
 have HB1 := Lib.hid (hb0.trans (hb1.mono hb0.size))
 clear hbx hb0 hb1 HC hbx1
 go_wp2_with fail
 refine (HW.out w1 HB1.out).mono ?_
 rintro e w2 ⟨rfl, hb2⟩
 have HB2 := Lib.hid (HB1.out.trans (hb2.mono HB1.out.size))
 clear hb2 HW HB1
 go_wp2
 refine bodyPost_ret (v := .tuple #[.int .i64 (wlL (-1) q l), .int .i64 (wlM (-1) q l), .int .i64 0]) ?_ rfl ⟨rfl, HB2.out⟩
 simp [results, Tryz.results150, go_sem]

set_option maxRecDepth 100000 in
set_option maxHeartbeats 4000000 in
theorem demandAt_any (A : Option Addr) (n c : Nat) (l : List (Int × Int)) (an an' : Bool) (aA aA' : Option Addr) (ak ac ak' ac' : Nat) (q : Rat) (w : World) (h : StAt w A n l) (hq : QArg w an aA ak ac an' aA' ak' ac' q) (hk : chk false l = 0) :
  Calls Tryz.prog 151 #[.slice A n c, .agg #[.bool an, .slice aA ak ac, .bool an', .slice aA' ak' ac']] w fun e w' => e = .returned (.tuple #[.int .i64 (wlL (1) q l), .int .i64 (wlM (1) q l), .int .i64 0]) ∧ Below w.heap.size w w' := by
 have hok := chk_ok hk
 have hn : n ≤ 3 := by rw [← h.1]; exact hok.2.1
 have HX := Lib.hid h
 have HC := Lib.hid (fun W (hW : Below w.heap.size w W) => checkBid_any A n c l W (h.below hW) (by omega))
 rw [hk] at HC
 have HW := Lib.hid (fun W (hW : Below w.heap.size w W) => willing_any (1) A n c l an an' aA aA' ak ac ak' ac' q W (h.below hW) (hq.below hW) hn hok.2.2.2)
 clear h hq hk hok
 go_enter Tryz.func151, Tryz.ntmps151
 go_wp2_with fail
 have hbx := Blk.new w 42 #[.bool an, .slice aA ak ac, .bool an', .slice aA' ak' ac']
 have hb0 : Below w.heap.size w (w.alloc (.cells #[.bool an, .slice aA ak ac, .bool an', .slice aA' ak' ac'] 42)) := (Below.refl _ _).alloc (Nat.le_refl _) _
 generalize w.alloc (.cells #[.bool an, .slice aA ak ac, .bool an', .slice aA' ak' ac'] 42) = W0 at *
 refine (HC.out W0 hb0).mono ?_
 rintro e w1 ⟨rfl, hb1⟩
 have hbx1 := hbx.below hb1 hbx.lt
 obtain ⟨c0, c1, c2, c3, -, -, -, -⟩ := hbx1.four
 have HB1 := Lib.hid (hb0.trans (hb1.mono hb0.size))
 clear hbx hb0 hb1 HC hbx1
 go_wp2_with fail
 refine (HW.out w1 HB1.out).mono ?_
 rintro e w2 ⟨rfl, hb2⟩
 have HB2 := Lib.hid (HB1.out.trans (hb2.mono HB1.out.size))
 clear hb2 HW HB1
 go_wp2
 refine bodyPost_ret (v := .tuple #[.int .i64 (wlL (1) q l), .int .i64 (wlM (1) q l), .int .i64 0]) ?_ rfl ⟨rfl, HB2.out⟩
 simp [results, Tryz.results151, go_sem]

end Go.Proofs.YtjajigkacccdgaaGreat

namespace Go.Proofs.YtjajigkacccdgaaGreat
set_option linter.unusedVariables false
set_option linter.unusedSimpArgs false
open Go.RowKit
open Wd

/-- The cells of a rational. -/
abbrev QE := Bool × (Option Addr × Nat × Nat) × Bool × (Option Addr × Nat × Nat)
abbrev QE0 : QE := (false, (none, 0, 0), false, (none, 0, 0))
def QsAtR (w : World) (A : Option Addr) (m : Nat) (es : List QE) : Prop :=
 es.length = m ∧ (m ≠ 0 → ∃ b o, A = some ⟨b, o, none⟩ ∧ b < w.heap.size ∧ ∀ j, j < m → w.cell? ⟨b, o + j * 4, none⟩ = some (.bool (es[j]?.getD QE0).1) ∧ w.cell? ⟨b, o + j * 4 + 1, none⟩ = some (.slice (es[j]?.getD QE0).2.1.1 (es[j]?.getD QE0).2.1.2.1 (es[j]?.getD QE0).2.1.2.2) ∧
  w.cell? ⟨b, o + j * 4 + 2, none⟩ = some (.bool (es[j]?.getD QE0).2.2.1) ∧ w.cell? ⟨b, o + j * 4 + 3, none⟩ = some (.slice (es[j]?.getD QE0).2.2.2.1 (es[j]?.getD QE0).2.2.2.2.1 (es[j]?.getD QE0).2.2.2.2.2))


def bigQ (e : QE) : Bool := decide (6 < e.2.1.2.1) || decide (6 < e.2.2.2.2.1)

set_option maxRecDepth 100000 in
set_option maxHeartbeats 4000000 in
theorem long23_any (A : Option Addr) (m c : Nat) (es : List QE) (w : World) (h : QsAtR w A m es) (hm : m ≤ 1000000000000) :
  Calls Tryz.prog 23 #[.slice A m c] w fun e w' => e = .returned (.bool (es.any bigQ)) ∧ Below w.heap.size w w' := by
 have HX := Lib.hid h
 have HLN := Lib.hid h.1
 clear h
 go_enter Tryz.func23, Tryz.ntmps23
 go_wp2_with fail
 go_loopw [3] (fun t wr => ∃ k : Nat, k ≤ m ∧ t = .int .i64 k ∧ Hid (Below w.heap.size w wr ∧ (es.take k).any bigQ = false)) (fun t _ => m - (intOf t).toNat)
 case atStart => exact ⟨0, Nat.zero_le _, rfl, Below.refl _ _, by simp⟩
 case round =>
  obtain ⟨k, hk, rfl, hR⟩ := hrel
  by_cases hlt : k < m
  ·obtain ⟨b, o, rfl, hb, hc⟩ := HX.out.2 (by omega)
   obtain ⟨-, y1, -, y3⟩ := hc k hlt
   have hkl : k < es.length := by rw [HLN.out]; exact hlt
   have htk : es.take (k + 1) = es.take k ++ [es[k]?.getD QE0] := by rw [List.take_add_one, List.getElem?_eq_getElem hkl]; rfl
   have hany : (es.take (k + 1)).any bigQ = bigQ (es[k]?.getD QE0) := by rw [htk, List.any_append, hR.out.2]; simp
   have hmm : bigQ (es[k]?.getD QE0) = true → es.any bigQ = true := fun hx => List.any_eq_true.2 ⟨_, getD_mem hkl, hx⟩
   unfold bigQ at hany hmm
   generalize (es[k]?.getD QE0).2.1.1 = a1 at *
   generalize (es[k]?.getD QE0).2.1.2.1 = n1 at *
   generalize (es[k]?.getD QE0).2.1.2.2 = c1 at *
   generalize (es[k]?.getD QE0).2.2.2.1 = a2 at *
   generalize (es[k]?.getD QE0).2.2.2.2.1 = n2 at *
   generalize (es[k]?.getD QE0).2.2.2.2.2 = c2 at *
   replace y1 := (hR.out.1.cell (p := ⟨b, o + k * 4 + 1, none⟩) hb).trans y1
   replace y3 := (hR.out.1.cell (p := ⟨b, o + k * 4 + 3, none⟩) hb).trans y3
   have k1 : (0 : Int) ≤ (k : Int) := by omega
   have k2 : (k : Int) < (m : Int) := by omega
   have HB := Lib.hid hR.out.1
   have HA := Lib.hid hany
   have HM := Lib.hid hmm
   clear hR hc hkl htk hany hmm
   by_cases h1 : 6 < n1
   ·have d1 : decide ((6 : Int) < (n1 : Int)) = true := by simp; omega
    have HT := Lib.hid (HM.out (by simp [h1]))
    go_wp2
    go_ret
    exact ⟨by have := HT.out; unfold bigQ; rw [this]; rfl, HB.out⟩
   ·have d1 : decide ((6 : Int) < (n1 : Int)) = false := by simp; omega
    by_cases h2 : 6 < n2
    ·have d2 : decide ((6 : Int) < (n2 : Int)) = true := by simp; omega
     have HT := Lib.hid (HM.out (by simp [h2]))
     go_wp2
     go_ret
     exact ⟨by have := HT.out; unfold bigQ; rw [this]; rfl, HB.out⟩
    ·have d2 : decide ((6 : Int) < (n2 : Int)) = false := by simp; omega
     have HF : Hid ((es.take (k + 1)).any bigQ = false) := by
      show _ = _
      have := HA.out
      unfold bigQ
      rw [this]
      simp [h1, h2]
     go_wp2
     go_roundw
     case rel => exact ⟨k + 1, by omega, by go_num, HB.out, HF.out⟩
     case measure => simp [intOf]; omega
  ·obtain rfl : k = m := by omega
   have HT : Hid (es.any bigQ = false) := by
    show _ = _
    have := hR.out.2
    rwa [List.take_of_length_le (by rw [HLN.out]; omega)] at this
   have HB := Lib.hid hR.out.1
   clear hR
   go_wp2
   go_ret
   exact ⟨by rw [HT.out]; rfl, HB.out⟩

/-- A rational as an argument: whatever its words are. -/
def QRaw (w : World) (A : Option Addr) (n c : Nat) (A' : Option Addr) (n' c' : Nat) : Prop := ∃ l l', Wat w A n l ∧ Wat w A' n' l' ∧ n ≤ c ∧ n' ≤ c'

end Go.Proofs.YtjajigkacccdgaaGreat
namespace Go.Proofs.YtjajigkacccdgaaGreat
set_option linter.unusedVariables false
set_option linter.unusedSimpArgs false
open Go.RowKit
open Wd
namespace St


end St






theorem sumw_snoc (f : List (Int × Int) → Int) {ls : List (List (Int × Int))} {k : Nat} (hk : k < ls.length) : sumI ((ls.take (k + 1)).map f) = sumI ((ls.take k).map f) + f (ls[k]?.getD []) := by
 have e : ls.take (k + 1) = ls.take k ++ [ls[k]?.getD []] := by rw [List.take_add_one, List.getElem?_eq_getElem hk]; rfl
 rw [e, List.map_append]
 exact sumI_snoc _ _
theorem sumw_bd (f : List (Int × Int) → Int) : ∀ (ls : List (List (Int × Int))), (∀ l ∈ ls, 0 ≤ f l ∧ f l ≤ 3000000) → 0 ≤ sumI (ls.map f) ∧ sumI (ls.map f) ≤ 3000000 * (ls.length : Int)
 | [], _ => by simp [sumI]
 | l :: ls, h => by
  have h1 := h l (List.mem_cons_self ..)
  have h2 := sumw_bd f ls fun y hy => h y (List.mem_cons_of_mem _ hy)
  rw [List.map_cons, sumI, List.length_cons]
  omega

end Go.Proofs.YtjajigkacccdgaaGreat
namespace Go.Proofs.YtjajigkacccdgaaGreat
set_option linter.unusedVariables false
set_option linter.unusedSimpArgs false
open Go.RowKit
open Wd
def longC (ls : List (List (Int × Int))) : Bool := decide (40 < ls.length) || ls.any fun l => decide (20 < l.length)

set_option maxRecDepth 100000 in
set_option maxHeartbeats 1000000 in
theorem long24_any (A : Option Addr) (n c : Nat) (ls : List (List (Int × Int))) (w : World) (h : CsAt w A n ls) :
  Calls Tryz.prog 12 #[.slice A n c] w fun e w' => e = .returned (.bool (longC ls)) ∧ Below w.heap.size w w' := by
 have HX := Lib.hid h
 have HLN := Lib.hid h.1
 by_cases h40 : 40 < n
 ·have d1 : decide ((40 : Int) < (n : Int)) = true := by simp; omega
  have HE : Hid (longC ls = true) := by
   show longC ls = true
   unfold longC
   rw [h.1]
   simp [h40]
  clear h
  go_enter Tryz.func12, Tryz.ntmps12
  go_wp2
  go_ret
  exact ⟨by rw [HE.out]; rfl, Below.refl _ _⟩
 ·have d1 : decide ((40 : Int) < (n : Int)) = false := by simp; omega
  have HE : Hid (longC ls = ls.any fun l => decide (20 < l.length)) := by
   show longC ls = _
   unfold longC
   rw [h.1]
   simp [h40]
  clear h
  go_enter Tryz.func12, Tryz.ntmps12
  go_wp2_with fail
  go_loopw [3] (fun t wr => ∃ k : Nat, k ≤ n ∧ t = .int .i64 k ∧ Hid (Below w.heap.size w wr ∧ (ls.take k).any (fun l => decide (20 < l.length)) = false)) (fun t _ => n - (intOf t).toNat)
  case atStart => exact ⟨0, Nat.zero_le _, rfl, Below.refl _ _, by simp⟩
  case round =>
   obtain ⟨k, hk, rfl, hR⟩ := hrel
   by_cases hlt : k < n
   ·obtain ⟨b, o, rfl, hb, hc⟩ := HX.out.2 (by omega)
    obtain ⟨A', n', c', hcell, hst⟩ := hc k hlt
    have hcell := (hR.out.1.cell (p := ⟨b, o + k, none⟩) hb).trans hcell
    have hl : (ls[k]?.getD []).length = n' := hst.1
    have hkl : k < ls.length := by rw [HLN.out]; exact hlt
    have htk : ls.take (k + 1) = ls.take k ++ [ls[k]?.getD []] := by rw [List.take_add_one, List.getElem?_eq_getElem hkl]; rfl
    have hany : (ls.take (k + 1)).any (fun l => decide (20 < l.length)) = decide (20 < n') := by rw [htk, List.any_append, hR.out.2]; simp [hl]
    have i1 : (0 : Int) ≤ (k : Int) := by omega
    have i2 : (k : Int) < (n : Int) := by omega
    have HB := Lib.hid hR.out.1
    have HA := Lib.hid hany
    by_cases h20 : 20 < n'
    ·have d2 : decide ((20 : Int) < (n' : Int)) = true := by simp; omega
     have HT : Hid (longC ls = true) := by
      show longC ls = true
      rw [HE.out]
      have := HA.out
      rw [decide_eq_true h20, List.any_eq_true] at this
      obtain ⟨x, hx, hx2⟩ := this
      exact List.any_eq_true.2 ⟨x, List.mem_of_mem_take hx, hx2⟩
     clear hR hst hc hl htk hany
     go_wp2
     go_ret
     exact ⟨by rw [HT.out]; rfl, HB.out⟩
    ·have d2 : decide ((20 : Int) < (n' : Int)) = false := by simp; omega
     have HF : Hid ((ls.take (k + 1)).any (fun l => decide (20 < l.length)) = false) := by
      show _ = _
      rw [HA.out]
      simp [h20]
     clear hR hst hc hl htk hany
     go_wp2
     go_roundw
     case rel => exact ⟨k + 1, by omega, by go_num, HB.out, HF.out⟩
     case measure => simp [intOf]; omega
   ·obtain rfl : k = n := by omega
    have HT : Hid (longC ls = false) := by
     show longC ls = false
     rw [HE.out]
     have := hR.out.2
     rwa [List.take_of_length_le (by rw [HLN.out]; omega)] at this
    have HB := Lib.hid hR.out.1
    clear hR
    go_wp2
    go_ret
    exact ⟨by rw [HT.out]; rfl, HB.out⟩

end Go.Proofs.YtjajigkacccdgaaGreat
namespace Go.Proofs.YtjajigkacccdgaaGreat
set_option linter.unusedVariables false
set_option linter.unusedSimpArgs false
open Go.RowKit
open Wd
/-- What a merge returns. -/
def MgR (up : Bool) (n : Nat) (ls : List (List (Int × Int))) (w : World) (e : Ending) (w' : World) : Prop :=
 ∃ (A : Option Addr) (m cap : Nat) (pl : Int) (lv : List St.Lv), e = .returned (.tuple #[.slice A m cap, .int .i64 pl, .int .i64 (ckC up ls).2]) ∧ LvAt w' A m n lv ∧ ((ckC up ls).2 = 0 → St.IsLv up n (St.tri 0 ls) lv ∧ VL up n lv) ∧ ((ckC up ls).2 ≠ 0 → m = 0) ∧ Below w.heap.size w w'

theorem merge_offers_any (A : Option Addr) (n c : Nat) (ls : List (List (Int × Int))) (w : World) (h : CsAt w A n ls) (hs : ∀ l ∈ ls, l.length ≤ 1000000000000) :
  Calls Tryz.prog 16 #[.slice A n c] w (MgR true n ls w) := by
 by_cases hc : (ckC true ls).2 = 0
 ·refine (merge_offers_ok A n c ls w h hs hc).mono ?_
  rintro e w' ⟨D, mg, cap, rfl, h1, h2, h3, h4⟩
  have hn := h.1
  subst hn
  refine ⟨some ⟨mg, 0, none⟩, D.length, cap, 0, lvOf ls.length (St.tri 0 ls) D, by rw [hc], h3.at, fun _ => ⟨lvOf_is h1 h2, lv_valid hc (lvOf_is h1 h2)⟩, fun h0 => absurd hc h0, h4⟩
 ·refine (merge_offers_no A n c ls w h hs hc).mono ?_
  rintro e w' ⟨rfl, h4⟩
  exact ⟨none, 0, 0, _, [], rfl, ⟨rfl, fun h0 => absurd rfl h0⟩, fun h0 => absurd h0 hc, fun _ => rfl, h4⟩

theorem merge_bids_any (A : Option Addr) (n c : Nat) (ls : List (List (Int × Int))) (w : World) (h : CsAt w A n ls) (hs : ∀ l ∈ ls, l.length ≤ 1000000000000) :
  Calls Tryz.prog 17 #[.slice A n c] w (MgR false n ls w) := by
 by_cases hc : (ckC false ls).2 = 0
 ·refine (merge_bids_ok A n c ls w h hs hc).mono ?_
  rintro e w' ⟨D, mg, cap, rfl, h1, h2, h3, h4⟩
  have hn := h.1
  subst hn
  refine ⟨some ⟨mg, 0, none⟩, D.length, cap, 0, lvOf ls.length (St.tri 0 ls) D, by rw [hc], h3.at, fun _ => ⟨lvOf_is h1 h2, lv_valid hc (lvOf_is h1 h2)⟩, fun h0 => absurd hc h0, h4⟩
 ·refine (merge_bids_no A n c ls w h hs hc).mono ?_
  rintro e w' ⟨rfl, h4⟩
  exact ⟨none, 0, 0, _, [], rfl, ⟨rfl, fun h0 => absurd rfl h0⟩, fun h0 => absurd h0 hc, fun _ => rfl, h4⟩


end Go.Proofs.YtjajigkacccdgaaGreat