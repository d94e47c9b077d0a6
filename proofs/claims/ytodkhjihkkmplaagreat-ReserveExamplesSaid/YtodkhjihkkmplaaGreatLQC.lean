/-
The statements of layer 30: awake. The statements of layer 30: awake. No statement of the seat is proved here; no conditions beyond those of each theorem.
-/
import Derived.Test.YtodkhjihkkmplaaGreatLRt4
namespace Go.Proofs.YtodkhjihkkmplaaGreat
set_option linter.unusedVariables false
set_option linter.unusedSimpArgs false
open Go.RowKit
open Wd

theorem rq_zero (w : World) : RQ w 0 none 0 0 none 0 0 := ⟨Nat.le_refl _, Nat.le_refl _, by show Wat _ _ 0 (digs 0); rw [digs_zero]; exact Wat.nil, Wat.nil⟩
theorem QsAt.lit3 {w : World} {g : Nat} {t : TypeId} {s0 s1 s2 : Bool} {A0 A1 A2 B0 B1 B2 : Option Addr} {k0 k1 k2 c0 c1 c2 j0 j1 j2 e0 e1 e2 : Nat} {q0 q1 q2 : Rat} (h : Blk w g t #[.bool s0, .slice A0 k0 c0, .bool false, .slice B0 j0 e0, .bool s1, .slice A1 k1 c1, .bool false, .slice B1 j1 e1, .bool s2, .slice A2 k2 c2, .bool false, .slice B2 j2 e2])
  (h0 : RQ w q0 A0 k0 c0 B0 j0 e0) (h1 : RQ w q1 A1 k1 c1 B1 j1 e1) (h2 : RQ w q2 A2 k2 c2 B2 j2 e2) (d0 : decide (q0.num < 0) = s0) (d1 : decide (q1.num < 0) = s1) (d2 : decide (q2.num < 0) = s2) : QsAt w (some ⟨g, 0, none⟩) 3 [q0, q1, q2] := by
 subst d0
 subst d1
 subst d2
 refine ⟨rfl, fun _ => ⟨g, 0, rfl, h.lt, fun j hj => ?_⟩⟩
 match j, hj with
 | 0, _ => exact ⟨_, _, _, _, _, _, h.cell 0, h.cell 1, h.cell 2, h.cell 3, h0⟩
 | 1, _ => exact ⟨_, _, _, _, _, _, h.cell 4, h.cell 5, h.cell 6, h.cell 7, h1⟩
 | 2, _ => exact ⟨_, _, _, _, _, _, h.cell 8, h.cell 9, h.cell 10, h.cell 11, h2⟩
theorem QsAt.gs {w : World} {A : Option Addr} {n K : Nat} {ps : List Rat} (h : QsAt w A n ps) (hl : ∀ j, j < n → Lv K (ps[j]?.getD 0)) (hK : K ≤ 18) : GsAt K w A n ps := by
 refine ⟨h.1, fun hn => ?_⟩
 obtain ⟨b, o, e, hb, hc⟩ := h.2 hn
 refine ⟨b, o, e, hb, fun j hj => ?_⟩
 obtain ⟨A1, k, c, A2, k', c', g0, g1, g2, g3, g4⟩ := hc j hj
 exact ⟨_, A1, k, c, _, A2, k', c', g0, g1, g2, g3, g4.qk (hl j hj) hK⟩
/-- The order of the example's units. -/
theorem ord30 {ord : List Nat} (h : Rv.Ord (spF exU30) 3 ord) : ord = [1, 0, 2] := by
 refine h.uniq ⟨by decide, ?_⟩
 simp [Rv.Bef, spF, exU30]
def exB30 : List Bool := [true, true, true]
theorem ck30_6 : rchk exU30 exB30 exQ30 6 = 0 := by decide +kernel
theorem ck30_8 : rchk exU30 exB30 exQ30 8 = 0 := by decide +kernel
theorem ck30_20 : rchk exU30 exB30 exQ30 20 = 0 := by decide +kernel
theorem ck30_2 : rchk exU30 exB30 exQ30 2 = 0 := by decide +kernel
theorem st_eq {a b : Rv.St} (h1 : a.tk = b.tk) (h2 : a.rest = b.rest) (h3 : a.price = b.price) : a = b := by cases a; cases b; simp_all
theorem fv30_6 (ord : List Nat) (h : Rv.Ord (spF exU30) 3 ord) : fillV exU30 exB30 exQ30 6 ord = ⟨[((4 : Int) : Rat), ((2 : Int) : Rat), 0], 0, 2⟩ := by
 rw [ord30 h]
 exact st_eq (by decide +kernel) (by decide +kernel) (by decide +kernel)
theorem fv30_8 (ord : List Nat) (h : Rv.Ord (spF exU30) 3 ord) : fillV exU30 exB30 exQ30 8 ord = ⟨[((4 : Int) : Rat), ((2 : Int) : Rat), ((2 : Int) : Rat)], 0, 2⟩ := by
 rw [ord30 h]
 exact st_eq (by decide +kernel) (by decide +kernel) (by decide +kernel)
theorem fv30_20 (ord : List Nat) (h : Rv.Ord (spF exU30) 3 ord) : fillV exU30 exB30 exQ30 20 ord = ⟨[((4 : Int) : Rat), ((2 : Int) : Rat), mkRat 5 (2 : Int).natAbs], mkRat 23 (2 : Int).natAbs, 2⟩ := by
 rw [ord30 h]
 exact st_eq (by decide +kernel) (by decide +kernel) (by decide +kernel)
theorem fv30_2 (ord : List Nat) (h : Rv.Ord (spF exU30) 3 ord) : fillV exU30 exB30 exQ30 2 ord = ⟨[0, ((2 : Int) : Rat), 0], 0, 0⟩ := by
 rw [ord30 h]
 exact st_eq (by decide +kernel) (by decide +kernel) (by decide +kernel)
theorem py30 : pyS ((2 : Int) : Rat) [((4 : Int) : Rat), ((2 : Int) : Rat), 0] 3 = ([((8 : Int) : Rat), ((4 : Int) : Rat), 0], ((12 : Int) : Rat)) := by decide +kernel

end Go.Proofs.YtodkhjihkkmplaaGreat

namespace Go.Proofs.YtodkhjihkkmplaaGreat
set_option linter.unusedVariables false
set_option linter.unusedSimpArgs false
open Go.RowKit
open Wd

theorem lens_int (z : Int) (hz : z.natAbs ≤ 100) : (digs ((z : Int) : Rat).num.natAbs).length ≤ 1000000 ∧ (denW ((z : Int) : Rat).den).length ≤ 1000000 := lv_len (lv_int _ (by omega))
theorem rows30_len : ∀ p ∈ [((8 : Int) : Rat), ((4 : Int) : Rat), 0], (digs p.num.natAbs).length ≤ 1000000 ∧ (denW p.den).length ≤ 1000000 := by
 intro p hp
 rcases List.mem_cons.1 hp with rfl | hp
 ·exact lens_int 8 (by decide)
 ·rcases List.mem_cons.1 hp with rfl | hp
  ·exact lens_int 4 (by decide)
  ·rcases List.mem_cons.1 hp with rfl | hp
   ·exact lens_int 0 (by decide)
   ·cases hp
set_option maxRecDepth 100000 in
set_option maxHeartbeats 8000000 in
theorem awake30_any (w : World) : Calls Tryz.prog 11 #[] w fun e w' => e = .returned (.bool true) ∧ Below w.heap.size w w' := by
 have I := Lib.hid (fun (z : Int) (hz : z.natAbs ≤ 100) (W : World) => qfromInt64_any z W (by omega) (by omega))
 go_enter Tryz.func11, Tryz.ntmps11
 go_wp2_with fail
 refine (ex30_any w).mono ?_
 rintro e w1 ⟨gu, gb, gq, rfl, hu, hb, hq, hb1⟩
 have HX := Lib.hid (And.intro hu (And.intro hb (And.intro hq hb1)))
 clear hu hb hq hb1
 go_wp2_with fail
 refine (new_any 5 2 w1 (by decide) (by decide) (by decide)).mono ?_
 generalize hs5 : decide ((mkRat 5 (2 : Int).natAbs).num < 0) = sh at *
 rintro e w2 ⟨AH, kh, ch, BH, jh, eh, rfl, hrh, hb2⟩
 have hx2 : Below w2.heap.size w2 (w2.alloc (.cells #[.bool sh, .slice AH kh ch, .bool false, .slice BH jh eh] 31)) := (Below.refl _ _).alloc (Nat.le_refl _) _
 have hN2 := Blk.new w2 31 #[.bool sh, .slice AH kh ch, .bool false, .slice BH jh eh]
 have hk2 : Below w1.heap.size w1 (w2.alloc (.cells #[.bool sh, .slice AH kh ch, .bool false, .slice BH jh eh] 31)) := hb2.trans (hx2.mono hb2.size)
 have H2 := Lib.hid (And.intro hk2 (And.intro hN2 (hrh.below hx2)))
 have HSH := Lib.hid hs5
 clear hx2 hN2 hk2 hrh hb2 hs5
 go_wp2_with fail
 generalize w2.alloc (.cells #[.bool sh, .slice AH kh ch, .bool false, .slice BH jh eh] 31) = V2 at *
 refine (new_any 23 2 V2 (by decide) (by decide) (by decide)).mono ?_
 generalize hs5 : decide ((mkRat 23 (2 : Int).natAbs).num < 0) = sf at *
 rintro e w3 ⟨AF, kf, cf, BF, jf, ef, rfl, hrf, hb3⟩
 have hx3 : Below w3.heap.size w3 (w3.alloc (.cells #[.bool sf, .slice AF kf cf, .bool false, .slice BF jf ef] 31)) := (Below.refl _ _).alloc (Nat.le_refl _) _
 have hN3 := Blk.new w3 31 #[.bool sf, .slice AF kf cf, .bool false, .slice BF jf ef]
 have hk3 : Below V2.heap.size V2 (w3.alloc (.cells #[.bool sf, .slice AF kf cf, .bool false, .slice BF jf ef] 31)) := hb3.trans (hx3.mono hb3.size)
 have H3 := Lib.hid (And.intro hk3 (And.intro hN3 (hrf.below hx3)))
 have HSF := Lib.hid hs5
 clear hx3 hN3 hk3 hrf hb3 hs5
 go_wp2_with fail
 generalize w3.alloc (.cells #[.bool sf, .slice AF kf cf, .bool false, .slice BF jf ef] 31) = V3 at *
 refine (I.out 4 (by decide) V3).mono ?_
 rintro e w4 ⟨A1, k1, c1, B1, j1, e1, rfl, hk1, hj1, hW1, hX1, -, -, hb4⟩
 go_wp2_with fail
 refine (I.out 2 (by decide) w4).mono ?_
 rintro e w5 ⟨A2, k2, c2, B2, j2, e2, rfl, hk2, hj2, hW2, hX2, -, -, hb5⟩
 have hx5 : Below w5.heap.size w5 (w5.alloc (.cells #[.bool false, .slice A1 k1 c1, .bool false, .slice B1 j1 e1, .bool false, .slice A2 k2 c2, .bool false, .slice B2 j2 e2, .bool false, .slice none 0 0, .bool false, .slice none 0 0] 31)) := (Below.refl _ _).alloc (Nat.le_refl _) _
 have h35 : Below V3.heap.size V3 w5 := hb4.trans (hb5.mono hb4.size)
 have r1 : RQ w4 ((4 : Int) : Rat) A1 k1 c1 B1 j1 e1 := ⟨hk1, hj1, hW1, hX1⟩
 have r2 : RQ w5 ((2 : Int) : Rat) A2 k2 c2 B2 j2 e2 := ⟨hk2, hj2, hW2, hX2⟩
 have hrow := QsAt.lit3 (Blk.new w5 31 #[.bool false, .slice A1 k1 c1, .bool false, .slice B1 j1 e1, .bool false, .slice A2 k2 c2, .bool false, .slice B2 j2 e2, .bool false, .slice none 0 0, .bool false, .slice none 0 0]) ((r1.below hb5).below hx5) (r2.below hx5) (rq_zero _) (by decide) (by decide) (by decide)
 have TP := Lib.hid (pay_any 0 (some ⟨w5.heap.size, 0, none⟩) 3 3 _ 2 (w5.alloc (.cells #[.bool false, .slice A1 k1 c1, .bool false, .slice B1 j1 e1, .bool false, .slice A2 k2 c2, .bool false, .slice B2 j2 e2, .bool false, .slice none 0 0, .bool false, .slice none 0 0] 31)) (hrow.gs (K := 0) (fun j hj => by
  match j, hj with
  | 0, _ => exact lv_int 0 (z := 4) (by decide)
  | 1, _ => exact lv_int 0 (z := 2) (by decide)
  | 2, _ => exact lv_int 0 (z := 0) (by decide)) (by omega)) (by omega) (by omega) (by decide))
 have H5 := Lib.hid (h35.trans (hx5.mono h35.size))
 clear hrow hx5 h35 r1 r2 hb4 hb5 hk1 hj1 hW1 hX1 hk2 hj2 hW2 hX2
 go_wp2_with fail
 refine TP.out.mono ?_
 rintro e w6 ⟨ge, A6, k6, c6, B6, j6, e6, rfl, hR6, hQ6, hg6, -, -, hb6⟩
 rw [py30] at hR6 hQ6
 simp only at hR6 hQ6
 rw [py30]
 simp only [show decide ((((12 : Int) : Rat)).num < 0) = false by decide]
 have hx6 : Below w6.heap.size w6 (w6.alloc (.cells #[.bool false, .slice A6 k6 c6, .bool false, .slice B6 j6 e6] 31)) := (Below.refl _ _).alloc (Nat.le_refl _) _
 have hB9 := Blk.new w6 31 #[.bool false, .slice A6 k6 c6, .bool false, .slice B6 j6 e6]
 have h5W : Below (w5.alloc (.cells #[.bool false, .slice A1 k1 c1, .bool false, .slice B1 j1 e1, .bool false, .slice A2 k2 c2, .bool false, .slice B2 j2 e2, .bool false, .slice none 0 0, .bool false, .slice none 0 0] 31)).heap.size (w5.alloc (.cells #[.bool false, .slice A1 k1 c1, .bool false, .slice B1 j1 e1, .bool false, .slice A2 k2 c2, .bool false, .slice B2 j2 e2, .bool false, .slice none 0 0, .bool false, .slice none 0 0] 31)) (w6.alloc (.cells #[.bool false, .slice A6 k6 c6, .bool false, .slice B6 j6 e6] 31)) := hb6.trans (hx6.mono hb6.size)
 have h3W : Below V3.heap.size V3 (w6.alloc (.cells #[.bool false, .slice A6 k6 c6, .bool false, .slice B6 j6 e6] 31)) := H5.out.trans (h5W.mono H5.out.size)
 have h2W : Below V2.heap.size V2 (w6.alloc (.cells #[.bool false, .slice A6 k6 c6, .bool false, .slice B6 j6 e6] 31)) := H3.out.1.trans (h3W.mono H3.out.1.size)
 have h1W : Below w1.heap.size w1 (w6.alloc (.cells #[.bool false, .slice A6 k6 c6, .bool false, .slice B6 j6 e6] 31)) := H2.out.1.trans (h2W.mono H2.out.1.size)
 have hBW := HX.out.2.2.2.trans (h1W.mono HX.out.2.2.2.size)
 have hu := HX.out.1.below h1W
 have hb := HX.out.2.1.below h1W
 have hq := HX.out.2.2.1.below h1W
 have hB4 := H2.out.2.1.below h2W H2.out.2.1.lt
 have hB6 := H3.out.2.1.below h3W H3.out.2.1.lt
 have rH := H2.out.2.2.below h2W
 have rF := H3.out.2.2.below h3W
 have hre := hR6.at.below hx6
 have hra := hQ6.below hx6
 have hHBW := Lib.hid hBW
 clear hx6 h5W h3W h2W h1W hBW HX H2 H3 H5 hR6 hQ6 hg6 hb6 TP
 go_upto_region 5 with fail
 generalize w6.alloc (.cells #[.bool false, .slice A6 k6 c6, .bool false, .slice B6 j6 e6] 31) = W at *
 have HU := Lib.hid (fun (w' : World) (hk : Kp W w') => And.intro (hu.below hk) (And.intro (hb.below hk) (And.intro (hq.below hk) (And.intro (rH.below hk) (And.intro (rF.below hk) (And.intro (hre.below hk) (hra.below hk)))))))
 have s5 := Kp.refl W
 have cnt0 := True.intro
 clear hu hb hq rH rF hre hra
 have hS : ∀ w', Kp W w' → (w'.cell? ⟨w2.heap.size, 0, none⟩ = some (.bool sh) ∧ w'.cell? ⟨w2.heap.size, 1, none⟩ = some (.slice AH kh ch) ∧ w'.cell? ⟨w2.heap.size, 2, none⟩ = some (.bool false) ∧ w'.cell? ⟨w2.heap.size, 3, none⟩ = some (.slice BH jh eh) ∧ w'.cell? ⟨w3.heap.size, 0, none⟩ = some (.bool sf) ∧ w'.cell? ⟨w3.heap.size, 1, none⟩ = some (.slice AF kf cf) ∧ w'.cell? ⟨w3.heap.size, 2, none⟩ = some (.bool false) ∧ w'.cell? ⟨w3.heap.size, 3, none⟩ = some (.slice BF jf ef) ∧ w'.cell? ⟨w6.heap.size, 0, none⟩ = some (.bool false) ∧ w'.cell? ⟨w6.heap.size, 1, none⟩ = some (.slice A6 k6 c6) ∧ w'.cell? ⟨w6.heap.size, 2, none⟩ = some (.bool false) ∧ w'.cell? ⟨w6.heap.size, 3, none⟩ = some (.slice B6 j6 e6)) ∧ Kp W w' := fun w' hk => ⟨⟨(hk.blk hB4).cell 0, (hk.blk hB4).cell 1, (hk.blk hB4).cell 2, (hk.blk hB4).cell 3, (hk.blk hB6).cell 0, (hk.blk hB6).cell 1, (hk.blk hB6).cell 2, (hk.blk hB6).cell 3, (hk.blk hB9).cell 0, (hk.blk hB9).cell 1, (hk.blk hB9).cell 2, (hk.blk hB9).cell 3⟩, hk⟩
 have HS := Lib.hid hS
 clear hS
 go_region_held3 (fun w' => (w'.cell? ⟨w2.heap.size, 0, none⟩ = some (.bool sh) ∧ w'.cell? ⟨w2.heap.size, 1, none⟩ = some (.slice AH kh ch) ∧ w'.cell? ⟨w2.heap.size, 2, none⟩ = some (.bool false) ∧ w'.cell? ⟨w2.heap.size, 3, none⟩ = some (.slice BH jh eh) ∧ w'.cell? ⟨w3.heap.size, 0, none⟩ = some (.bool sf) ∧ w'.cell? ⟨w3.heap.size, 1, none⟩ = some (.slice AF kf cf) ∧ w'.cell? ⟨w3.heap.size, 2, none⟩ = some (.bool false) ∧ w'.cell? ⟨w3.heap.size, 3, none⟩ = some (.slice BF jf ef) ∧ w'.cell? ⟨w6.heap.size, 0, none⟩ = some (.bool false) ∧ w'.cell? ⟨w6.heap.size, 1, none⟩ = some (.slice A6 k6 c6) ∧ w'.cell? ⟨w6.heap.size, 2, none⟩ = some (.bool false) ∧ w'.cell? ⟨w6.heap.size, 3, none⟩ = some (.slice B6 j6 e6)) ∧ Kp W w')
  (first | (with_reducible refine HS.out _ ?_; with_reducible assumption) | (with_reducible refine HS.out _ (Kp.drew ?_); with_reducible assumption) | (with_reducible refine' HS.out _ (Kp.drew (And.right ?_)); rotate_left; with_reducible assumption) | (with_reducible refine' HS.out _ (Kp.alloc (And.right ?_) _); rotate_left; with_reducible assumption))
  (first
   | (have := cnt0; go_at_call 29; have hk := And.right ‹_ ∧ Kp W _›; refine (I.out 4 (by decide) _).mono ?_; rintro e v0 ⟨A100, k100, c100, B100, j100, e100, rfl, hk1, hj1, hW1, hX1, -, -, hbx⟩; have r0 : RQ v0 ((4 : Int) : Rat) A100 k100 c100 B100 j100 e100 := ⟨hk1, hj1, hW1, hX1⟩; clear hk1 hj1 hW1 hX1; have hp := Kp.trans hk hbx; clear this cnt0 hk hbx; have cnt1 := True.intro)
   | (have := cnt1; go_at_call 29; have hk := And.right ‹_ ∧ Kp W _›; refine (I.out 2 (by decide) _).mono ?_; rintro e v1 ⟨A101, k101, c101, B101, j101, e101, rfl, hk1, hj1, hW1, hX1, -, -, hbx⟩; have r1 : RQ v1 ((2 : Int) : Rat) A101 k101 c101 B101 j101 e101 := ⟨hk1, hj1, hW1, hX1⟩; clear hk1 hj1 hW1 hX1; have hp := Kp.trans hk hbx; (try have r0 := r0.below hbx); clear this cnt1 hk hbx; have cnt2 := True.intro)
   | (have := cnt2; go_at_call 24; have hk := And.right ‹_ ∧ Kp W _›; refine (fills_yes _ _ _ _ _ _ 3 _ 3 _ 3 _ _ _ _ _ _ exU30 exB30 exQ30 _ _ 6 2 _ _ (HU.out _ hk).1 (HU.out _ hk).2.1 (HU.out _ hk).2.2.1 (by omega) (by omega) (by omega) ck30_6 fv30_6 (QsAt.lit3 (Blk.new v1 31 #[.bool false, .slice A100 k100 c100, .bool false, .slice B100 j100 e100, .bool false, .slice A101 k101 c101, .bool false, .slice B101 j101 e101, .bool false, .slice none 0 0, .bool false, .slice none 0 0]) (r0.below ((Below.refl _ _).alloc (Nat.le_refl _) (.cells #[.bool false, .slice A100 k100 c100, .bool false, .slice B100 j100 e100, .bool false, .slice A101 k101 c101, .bool false, .slice B101 j101 e101, .bool false, .slice none 0 0, .bool false, .slice none 0 0] 31))) (r1.below ((Below.refl _ _).alloc (Nat.le_refl _) (.cells #[.bool false, .slice A100 k100 c100, .bool false, .slice B100 j100 e100, .bool false, .slice A101 k101 c101, .bool false, .slice B101 j101 e101, .bool false, .slice none 0 0, .bool false, .slice none 0 0] 31))) (rq_zero _) (by decide) (by decide) (by decide)) (rq_zero _) (by decide)).mono ?_; rintro e v2 ⟨rfl, hbx⟩; have hp := Kp.trans hk hbx; clear this cnt2 hk hbx; have cnt3 := True.intro)
   | (have := cnt3; go_at_call 29; have hk := And.right ‹_ ∧ Kp W _›; refine (I.out 4 (by decide) _).mono ?_; rintro e v3 ⟨A103, k103, c103, B103, j103, e103, rfl, hk1, hj1, hW1, hX1, -, -, hbx⟩; have r3 : RQ v3 ((4 : Int) : Rat) A103 k103 c103 B103 j103 e103 := ⟨hk1, hj1, hW1, hX1⟩; clear hk1 hj1 hW1 hX1; have hp := Kp.trans hk hbx; clear this cnt3 hk hbx; have cnt4 := True.intro)
   | (have := cnt4; go_at_call 29; have hk := And.right ‹_ ∧ Kp W _›; refine (I.out 2 (by decide) _).mono ?_; rintro e v4 ⟨A104, k104, c104, B104, j104, e104, rfl, hk1, hj1, hW1, hX1, -, -, hbx⟩; have r4 : RQ v4 ((2 : Int) : Rat) A104 k104 c104 B104 j104 e104 := ⟨hk1, hj1, hW1, hX1⟩; clear hk1 hj1 hW1 hX1; have hp := Kp.trans hk hbx; (try have r3 := r3.below hbx); clear this cnt4 hk hbx; have cnt5 := True.intro)
   | (have := cnt5; go_at_call 29; have hk := And.right ‹_ ∧ Kp W _›; refine (I.out 2 (by decide) _).mono ?_; rintro e v5 ⟨A105, k105, c105, B105, j105, e105, rfl, hk1, hj1, hW1, hX1, -, -, hbx⟩; have r5 : RQ v5 ((2 : Int) : Rat) A105 k105 c105 B105 j105 e105 := ⟨hk1, hj1, hW1, hX1⟩; clear hk1 hj1 hW1 hX1; have hp := Kp.trans hk hbx; (try have r3 := r3.below hbx); (try have r4 := r4.below hbx); clear this cnt5 hk hbx; have cnt6 := True.intro)
   | (have := cnt6; go_at_call 24; have hk := And.right ‹_ ∧ Kp W _›; refine (fills_yes _ _ _ _ _ _ 3 _ 3 _ 3 _ _ _ _ _ _ exU30 exB30 exQ30 _ _ 8 2 _ _ (HU.out _ hk).1 (HU.out _ hk).2.1 (HU.out _ hk).2.2.1 (by omega) (by omega) (by omega) ck30_8 fv30_8 (QsAt.lit3 (Blk.new v5 31 #[.bool false, .slice A103 k103 c103, .bool false, .slice B103 j103 e103, .bool false, .slice A104 k104 c104, .bool false, .slice B104 j104 e104, .bool false, .slice A105 k105 c105, .bool false, .slice B105 j105 e105]) (r3.below ((Below.refl _ _).alloc (Nat.le_refl _) (.cells #[.bool false, .slice A103 k103 c103, .bool false, .slice B103 j103 e103, .bool false, .slice A104 k104 c104, .bool false, .slice B104 j104 e104, .bool false, .slice A105 k105 c105, .bool false, .slice B105 j105 e105] 31))) (r4.below ((Below.refl _ _).alloc (Nat.le_refl _) (.cells #[.bool false, .slice A103 k103 c103, .bool false, .slice B103 j103 e103, .bool false, .slice A104 k104 c104, .bool false, .slice B104 j104 e104, .bool false, .slice A105 k105 c105, .bool false, .slice B105 j105 e105] 31))) (r5.below ((Below.refl _ _).alloc (Nat.le_refl _) (.cells #[.bool false, .slice A103 k103 c103, .bool false, .slice B103 j103 e103, .bool false, .slice A104 k104 c104, .bool false, .slice B104 j104 e104, .bool false, .slice A105 k105 c105, .bool false, .slice B105 j105 e105] 31))) (by decide) (by decide) (by decide)) (rq_zero _) (by decide)).mono ?_; rintro e v6 ⟨rfl, hbx⟩; have hp := Kp.trans hk hbx; clear this cnt6 hk hbx; have cnt7 := True.intro)
   | (have := cnt7; go_at_call 29; have hk := And.right ‹_ ∧ Kp W _›; refine (I.out 4 (by decide) _).mono ?_; rintro e v7 ⟨A107, k107, c107, B107, j107, e107, rfl, hk1, hj1, hW1, hX1, -, -, hbx⟩; have r7 : RQ v7 ((4 : Int) : Rat) A107 k107 c107 B107 j107 e107 := ⟨hk1, hj1, hW1, hX1⟩; clear hk1 hj1 hW1 hX1; have hp := Kp.trans hk hbx; clear this cnt7 hk hbx; have cnt8 := True.intro)
   | (have := cnt8; go_at_call 29; have hk := And.right ‹_ ∧ Kp W _›; refine (I.out 2 (by decide) _).mono ?_; rintro e v8 ⟨A108, k108, c108, B108, j108, e108, rfl, hk1, hj1, hW1, hX1, -, -, hbx⟩; have r8 : RQ v8 ((2 : Int) : Rat) A108 k108 c108 B108 j108 e108 := ⟨hk1, hj1, hW1, hX1⟩; clear hk1 hj1 hW1 hX1; have hp := Kp.trans hk hbx; (try have r7 := r7.below hbx); clear this cnt8 hk hbx; have cnt9 := True.intro)
   | (have := cnt9; go_at_call 24; have hk := And.right ‹_ ∧ Kp W _›; refine (fills_yes _ _ _ _ _ _ 3 _ 3 _ 3 _ _ _ _ _ _ exU30 exB30 exQ30 _ _ 20 2 _ _ (HU.out _ hk).1 (HU.out _ hk).2.1 (HU.out _ hk).2.2.1 (by omega) (by omega) (by omega) ck30_20 fv30_20 (QsAt.lit3 (Blk.new v8 31 #[.bool false, .slice A107 k107 c107, .bool false, .slice B107 j107 e107, .bool false, .slice A108 k108 c108, .bool false, .slice B108 j108 e108, .bool sh, .slice AH kh ch, .bool false, .slice BH jh eh]) (r7.below ((Below.refl _ _).alloc (Nat.le_refl _) (.cells #[.bool false, .slice A107 k107 c107, .bool false, .slice B107 j107 e107, .bool false, .slice A108 k108 c108, .bool false, .slice B108 j108 e108, .bool sh, .slice AH kh ch, .bool false, .slice BH jh eh] 31))) (r8.below ((Below.refl _ _).alloc (Nat.le_refl _) (.cells #[.bool false, .slice A107 k107 c107, .bool false, .slice B107 j107 e107, .bool false, .slice A108 k108 c108, .bool false, .slice B108 j108 e108, .bool sh, .slice AH kh ch, .bool false, .slice BH jh eh] 31))) (HU.out _ hk).2.2.2.1 (by decide) (by decide) HSH.out) (HU.out _ hk).2.2.2.2.1 HSF.out.symm).mono ?_; rintro e v9 ⟨rfl, hbx⟩; have hp := Kp.trans hk hbx; clear this cnt9 hk hbx; have cnt10 := True.intro)
   | (have := cnt10; go_at_call 29; have hk := And.right ‹_ ∧ Kp W _›; refine (I.out 2 (by decide) _).mono ?_; rintro e v10 ⟨A110, k110, c110, B110, j110, e110, rfl, hk1, hj1, hW1, hX1, -, -, hbx⟩; have r10 : RQ v10 ((2 : Int) : Rat) A110 k110 c110 B110 j110 e110 := ⟨hk1, hj1, hW1, hX1⟩; clear hk1 hj1 hW1 hX1; have hp := Kp.trans hk hbx; clear this cnt10 hk hbx; have cnt11 := True.intro)
   | (have := cnt11; go_at_call 24; have hk := And.right ‹_ ∧ Kp W _›; refine (fills_yes _ _ _ _ _ _ 3 _ 3 _ 3 _ _ _ _ _ _ exU30 exB30 exQ30 _ _ 2 0 _ _ (HU.out _ hk).1 (HU.out _ hk).2.1 (HU.out _ hk).2.2.1 (by omega) (by omega) (by omega) ck30_2 fv30_2 (QsAt.lit3 (Blk.new v10 31 #[.bool false, .slice none 0 0, .bool false, .slice none 0 0, .bool false, .slice A110 k110 c110, .bool false, .slice B110 j110 e110, .bool false, .slice none 0 0, .bool false, .slice none 0 0]) (rq_zero _) (r10.below ((Below.refl _ _).alloc (Nat.le_refl _) (.cells #[.bool false, .slice none 0 0, .bool false, .slice none 0 0, .bool false, .slice A110 k110 c110, .bool false, .slice B110 j110 e110, .bool false, .slice none 0 0, .bool false, .slice none 0 0] 31))) (rq_zero _) (by decide) (by decide) (by decide)) (rq_zero _) (by decide)).mono ?_; rintro e v11 ⟨rfl, hbx⟩; have hp := Kp.trans hk hbx; clear this cnt11 hk hbx; have cnt12 := True.intro)
   | (have := cnt12; go_at_call 29; have hk := And.right ‹_ ∧ Kp W _›; refine (I.out 8 (by decide) _).mono ?_; rintro e v12 ⟨A112, k112, c112, B112, j112, e112, rfl, hk1, hj1, hW1, hX1, -, -, hbx⟩; have r12 : RQ v12 ((8 : Int) : Rat) A112 k112 c112 B112 j112 e112 := ⟨hk1, hj1, hW1, hX1⟩; clear hk1 hj1 hW1 hX1; have hp := Kp.trans hk hbx; clear this cnt12 hk hbx; have cnt13 := True.intro)
   | (have := cnt13; go_at_call 29; have hk := And.right ‹_ ∧ Kp W _›; refine (I.out 4 (by decide) _).mono ?_; rintro e v13 ⟨A113, k113, c113, B113, j113, e113, rfl, hk1, hj1, hW1, hX1, -, -, hbx⟩; have r13 : RQ v13 ((4 : Int) : Rat) A113 k113 c113 B113 j113 e113 := ⟨hk1, hj1, hW1, hX1⟩; clear hk1 hj1 hW1 hX1; have hp := Kp.trans hk hbx; (try have r12 := r12.below hbx); clear this cnt13 hk hbx; have cnt14 := True.intro)
   | (have := cnt14; go_at_call 15; have hk := And.right ‹_ ∧ Kp W _›; refine (rrows_yes _ _ 3 _ _ _ _ (HU.out _ hk).2.2.2.2.2.1 (QsAt.lit3 (Blk.new v13 31 #[.bool false, .slice A112 k112 c112, .bool false, .slice B112 j112 e112, .bool false, .slice A113 k113 c113, .bool false, .slice B113 j113 e113, .bool false, .slice none 0 0, .bool false, .slice none 0 0]) (r12.below ((Below.refl _ _).alloc (Nat.le_refl _) (.cells #[.bool false, .slice A112 k112 c112, .bool false, .slice B112 j112 e112, .bool false, .slice A113 k113 c113, .bool false, .slice B113 j113 e113, .bool false, .slice none 0 0, .bool false, .slice none 0 0] 31))) (r13.below ((Below.refl _ _).alloc (Nat.le_refl _) (.cells #[.bool false, .slice A112 k112 c112, .bool false, .slice B112 j112 e112, .bool false, .slice A113 k113 c113, .bool false, .slice B113 j113 e113, .bool false, .slice none 0 0, .bool false, .slice none 0 0] 31))) (rq_zero _) (by decide) (by decide) (by decide)) (by omega) rows30_len).mono ?_; rintro e v14 ⟨rfl, hbx⟩; have hp := Kp.trans hk hbx; clear this cnt14 hk hbx; have cnt15 := True.intro)
   | (have := cnt15; go_at_call 29; have hk := And.right ‹_ ∧ Kp W _›; refine (I.out 12 (by decide) _).mono ?_; rintro e v15 ⟨A115, k115, c115, B115, j115, e115, rfl, hk1, hj1, hW1, hX1, -, -, hbx⟩; have r15 : RQ v15 ((12 : Int) : Rat) A115 k115 c115 B115 j115 e115 := ⟨hk1, hj1, hW1, hX1⟩; clear hk1 hj1 hW1 hX1; have hp := Kp.trans hk hbx; clear this cnt15 hk hbx; have cnt16 := True.intro)
   | (have := cnt16; go_at_call 14; have hk := And.right ‹_ ∧ Kp W _›; have hra := (HU.out _ hk).2.2.2.2.2.2; have e1 := hra.2.2.1.len.trans r15.2.2.1.len.symm; have e2 := hra.2.2.2.len.trans r15.2.2.2.len.symm; subst e1; subst e2; refine (ris_yes _ _ _ _ _ _ _ _ _ _ _ _ hra r15 (by rw [hra.2.2.1.len]; exact (lens_int 12 (by decide)).1) (by rw [hra.2.2.2.len]; exact (lens_int 12 (by decide)).2)).mono ?_; rintro e v16 ⟨rfl, hbx⟩; have hp := Kp.trans hk hbx; clear this cnt16 hk hbx; have cnt17 := True.intro))
 all_goals
  have HF := Lib.hid (hHBW.out.trans (Below.mono hp hHBW.out.size))
  clear hp
  go_wp2
  go_ret
  exact ⟨rfl, HF.out⟩

end Go.Proofs.YtodkhjihkkmplaaGreat
