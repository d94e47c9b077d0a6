/-
Package reserve: Pay. No statement of the seat is proved here; no conditions beyond those of each theorem.
-/
import Derived.Test.YtodkhjihkkmplaaGreatLQB
import Derived.Deep.CutRange
import Derived.Deep.DrawnRows
namespace Go.Proofs.YtodkhjihkkmplaaGreat
set_option linter.unusedVariables false
set_option linter.unusedSimpArgs false
open Go.RowKit
open Wd

/-- The payments and their sum after i units. -/
def pyS (p : Rat) (qs : List Rat) : Nat → List Rat × Rat
 | 0 => (List.replicate qs.length 0, 0)
 | i + 1 => ((pyS p qs i).1.set i (p * (qs[i]?.getD 0)), (pyS p qs i).2 + p * (qs[i]?.getD 0))
theorem pyS_len (p : Rat) (qs : List Rat) : ∀ i, (pyS p qs i).1.length = qs.length
 | 0 => by simp [pyS]
 | i + 1 => by simp [pyS, pyS_len p qs i]


/-- What Pay hands back. -/
def PayP (K n : Nat) (p : Rat) (qs : List Rat) (w : World) (e : Ending) (w' : World) : Prop :=
 ∃ g A k c A' k' c', e = .returned (.tuple #[.slice (some ⟨g, 0, none⟩) n n, .agg #[.bool (decide ((pyS p qs n).2.num < 0)), .slice A k c, .bool false, .slice A' k' c']]) ∧ QRow w' g n (pyS p qs n).1 ∧ RQ w' (pyS p qs n).2 A k c A' k' c' ∧ w.heap.size ≤ g ∧
  (∀ j, j < n → Lv (K + 1 + n) ((pyS p qs n).1[j]?.getD 0)) ∧ Lv (K + 1 + n) (pyS p qs n).2 ∧ Below w.heap.size w w'

set_option maxRecDepth 100000 in
set_option maxHeartbeats 8000000 in
theorem pay_any (K : Nat) (A : Option Addr) (n c : Nat) (qs : List Rat) (price : Int) (w : World) (hg : GsAt K w A n qs) (hn : n ≤ 5) (hK : K + 1 + n ≤ 17) (hpr : price.natAbs ≤ 9223372036854775807) :
  Calls Tryz.prog 18 #[.slice A n c, .int .i64 price] w (PayP K n (price : Rat) qs w) := by
 have HG := Lib.hid hg
 have hmq := fun w => run_make_Q n (by omega) w
 have FI := Lib.hid (fun W => qfromInt64_any price W (by omega) (by omega))
 have HLP := Lib.hid (lv_int K (z := price) (by omega))
 clear hg hpr
 unfold PayP
 go_enter Tryz.func18, Tryz.ntmps18
 go_wp2_with fail
 have hB0 := (Blk.new w 31 #[.bool false, .slice none 0 0, .bool false, .slice none 0 0]).alloc (.cells (madeCells qzero (n * 4)) 31)
 have hR0 := QRow.start (w.alloc (.cells #[.bool false, .slice none 0 0, .bool false, .slice none 0 0] 31)) n
 simp only [World.size_alloc] at hR0
 have hBW : Below w.heap.size w ((w.alloc (.cells #[.bool false, .slice none 0 0, .bool false, .slice none 0 0] 31)).alloc (.cells (madeCells qzero (n * 4)) 31)) := ((Below.refl _ _).alloc (Nat.le_refl _) _).alloc (by simp only [World.size_alloc]; omega) _
 have hsz : ((w.alloc (.cells #[.bool false, .slice none 0 0, .bool false, .slice none 0 0] 31)).alloc (.cells (madeCells qzero (n * 4)) 31)).heap.size = w.heap.size + 1 + 1 := by simp
 generalize (w.alloc (.cells #[.bool false, .slice none 0 0, .bool false, .slice none 0 0] 31)).alloc (.cells (madeCells qzero (n * 4)) 31) = W0 at *
 generalize hpq : ((price : Int) : Rat) = p at *
 have HST := Lib.hid (show FiR K n w.heap.size (w.heap.size + 1) W0 0 (pyS p qs 0).1 (pyS p qs 0).2 W0 from ⟨Rk2.refl, ⟨none, 0, 0, none, 0, 0, hB0, Nat.le_refl _, Nat.le_refl _, by show Wat _ _ 0 (digs 0); rw [digs_zero]; exact Wat.nil, Wat.nil⟩, by unfold pyS; rw [HG.out.1]; exact hR0, lv_int (z := 0) _ (by decide), fun j hj => by
  unfold pyS
  rw [show ((List.replicate qs.length (0 : Rat))[j]?.getD 0) = ((0 : Int) : Rat) by rw [HG.out.1]; simp [hj]]
  exact lv_int _ (by decide)⟩)
 have HBW := Lib.hid hBW
 have HSZ := Lib.hid hsz
 have HPQ := Lib.hid hpq
 clear hB0 hR0 hBW hsz hmq hpq
 go_loopw [13] (fun t wr => ∃ i : Nat, i ≤ n ∧ t = .int .i64 (i : Int) ∧ Hid (FiR K n w.heap.size (w.heap.size + 1) W0 i (pyS p qs i).1 (pyS p qs i).2 wr)) (fun t _ => n - (intOf t).toNat)
 case atStart => exact ⟨0, Nat.zero_le _, rfl, HST.out⟩
 case round =>
  clear HST
  obtain ⟨i, hi, rfl, hX⟩ := hrel
  by_cases hlt : i < n
  ·obtain ⟨x1, ⟨A5, k5, c5, A6, k6, c6, x2, x3⟩, x4, x5, x6⟩ := hX.out
   obtain ⟨b2, o2, rfl, hb2, hcell2⟩ := HG.out.2 (by omega)
   obtain ⟨an, aA, ak, ac, an', aA', ak', ac', g1, g2, g3, g4, hq⟩ := hcell2 i hlt
   have hs0 : w.heap.size + 1 < W0.heap.size := by have := HSZ.out; omega
   have hB : Below w.heap.size w wr := x1.below HBW.out (by omega) (by omega) (by omega)
   have f10 := (hB.cell (p := ⟨b2, o2 + i * 4, none⟩) hb2).trans g1
   have f11 := (hB.cell (p := ⟨b2, o2 + i * 4 + 1, none⟩) hb2).trans g2
   have f12 := (hB.cell (p := ⟨b2, o2 + i * 4 + 2, none⟩) hb2).trans g3
   have f13 := (hB.cell (p := ⟨b2, o2 + i * 4 + 3, none⟩) hb2).trans g4
   have hq := hq.below hB
   have hbr2 : b2 < wr.heap.size := Nat.lt_of_lt_of_le hb2 hB.size
   have ka := (Kp.refl wr).alloc (.cells #[.bool an, .slice aA ak ac, .bool an', .slice aA' ak' ac'] 31)
   have hA7 := Blk.new wr 31 #[.bool an, .slice aA ak ac, .bool an', .slice aA' ak' ac']
   have hmulp : Lv (K + 1) (p * (qs[i]?.getD 0)) := HLP.out.mul hq.lv
   have HM := Lib.hid (fun (W : World) (hW : Kp (wr.alloc (.cells #[.bool an, .slice aA ak ac, .bool an', .slice aA' ak' ac'] 31)) W) (B B' : Option Addr) (k d k' d' : Nat) (h1 : k ≤ d) (h2 : k' ≤ d') (h3 : Wat W B k (digs p.num.natAbs)) (h4 : Wat W B' k' (denW p.den)) => mul_k (k := K) (by omega) (wat_qk h1 h2 h3 h4 HLP.out (by omega)) (hq.below (Kp.trans ka hW)))
   have hstep : pyS p qs (i + 1) = ((pyS p qs i).1.set i (p * (qs[i]?.getD 0)), (pyS p qs i).2 + p * (qs[i]?.getD 0)) := rfl
   have hlen := pyS_len p qs i
   rw [HG.out.1] at hlen
   have hki1 : (0 : Int) ≤ (i : Int) := by omega
   have hki2 : (i : Int) < (n : Int) := by omega
   have HSTEP := Lib.hid hstep
   have HMP := Lib.hid hmulp
   generalize (pyS p qs i).1 = tk at *
   generalize (pyS p qs i).2 = sm at *
   generalize p * (qs[i]?.getD 0) = t at *
   have X1 := Lib.hid (x1.call ka)
   have X3 := Lib.hid (x3.below ka)
   have X4 := Lib.hid (x4.below ka)
   have X5 := Lib.hid x5
   have X6 := Lib.hid x6
   have X2 := Lib.hid (x2.below ka x2.lt)
   have HA7 := Lib.hid hA7
   have HLEN := Lib.hid hlen
   clear hX x1 x2 x3 x4 x5 x6 hcell2 hb2 hq hB g1 g2 g3 g4 hmulp hstep hlen ka
   obtain ⟨m0, m1, m2, m3, -, -, -, -⟩ := hA7.four
   clear hA7
   go_upto_region 5 with fail
   generalize wr.alloc (.cells #[.bool an, .slice aA ak ac, .bool an', .slice aA' ak' ac'] 31) = W5 at *
   have s5 := Kp.refl W5
   go_cut [13] from 13 to 31 (fun s wx => s = .int .i64 (i : Int) ∧ Hid (Rk2 w.heap.size (w.heap.size + 1) W0 wx ∧ Blk wx w.heap.size 31 #[.bool (decide (sm.num < 0)), .slice A5 k5 c5, .bool false, .slice A6 k6 c6] ∧ RQ wx sm A5 k5 c5 A6 k6 c6 ∧ QRow wx (w.heap.size + 1) n (tk.set i t)))
   case first =>
    go_region_with (first
     | (go_at_call 29; refine (FI.out _).mono ?_; rintro e v4 ⟨A3, k3, c3, A4, k4, c4, rfl, hk3, hk4, hW3, hW4, hF3, hF4, hb4⟩; have hp4 : Kp W5 v4 := Kp.trans (Kp.drew s5) hb4; obtain ⟨m0, m1, m2, m3, -⟩ := (Kp.blk hp4 HA7.out).four; clear hb4 hF3 hF4)
     | (go_at_call 31; refine (HM.out v4 hp4 A3 A4 k3 c3 k4 c4 hk3 hk4 hW3 hW4).mono ?_; rintro e v8 ⟨A7, k7, c7, A8, k8, c8, rfl, hk7, hk8, hW7, hW8, hF7, hF8, hb8⟩; have hp8 := Kp.trans hp4 hb8; obtain ⟨_, _, _, _, _, _, i0, i1, i2, i3, i4, i5, i6, i7, -⟩ := (X4.out.below hp8).cells hlt; clear hb8 hF7 hF8))
    all_goals
     have e8 : (((v8.setCell ⟨w.heap.size + 1, i * 4, none⟩ (.bool (decide (t.num < 0)))).setCell ⟨w.heap.size + 1, i * 4 + 1, none⟩ (.slice A7 k7 c7)).setCell ⟨w.heap.size + 1, i * 4 + 2, none⟩ (.bool false)).setCell ⟨w.heap.size + 1, i * 4 + 3, none⟩ (.slice A8 k8 c8) = qst v8 (w.heap.size + 1) (i * 4) (decide (t.num < 0)) false A7 A8 k7 c7 k8 c8 := rfl
     rw [e8]
     have hrow := X4.out.below hp8
     have hx2 := Kp.blk hp8 X2.out
     have hx3 := X3.out.below hp8
     have hR1 := X1.out.call hp8
     obtain ⟨hl5, cs5, hbk5, hni5, -⟩ := hrow
     have hfin : Rk2 w.heap.size (w.heap.size + 1) W0 (qst v8 (w.heap.size + 1) (i * 4) (decide (t.num < 0)) false A7 A8 k7 c7 k8 c8) ∧ Blk (qst v8 (w.heap.size + 1) (i * 4) (decide (t.num < 0)) false A7 A8 k7 c7 k8 c8) w.heap.size 31 #[.bool (decide (sm.num < 0)), .slice A5 k5 c5, .bool false, .slice A6 k6 c6] ∧ RQ (qst v8 (w.heap.size + 1) (i * 4) (decide (t.num < 0)) false A7 A8 k7 c7 k8 c8) sm A5 k5 c5 A6 k6 c6 ∧ QRow (qst v8 (w.heap.size + 1) (i * 4) (decide (t.num < 0)) false A7 A8 k7 c7 k8 c8) (w.heap.size + 1) n (tk.set i t) :=
      ⟨hR1.put (Or.inr (Or.inl rfl)), hx2.far4 (by omega), hx3.put4 hbk5 hni5, (X4.out.below hp8).put hlt hk7 hk8 hW7 hW8⟩
     have HF := Lib.hid hfin
     generalize qst v8 (w.heap.size + 1) (i * 4) (decide (t.num < 0)) false A7 A8 k7 c7 k8 c8 = W8 at *
     clear e8 hfin hx2 hx3 hR1 hl5 hbk5 hni5 hk7 hk8 hW7 hW8 i0 i1 i2 i3 i4 i5 i6 i7 hp8 hp4 m0 m1 m2 m3
     go_wp2_with fail
     go_meet
     exact ⟨rfl, HF.out⟩
   case rest =>
    obtain ⟨rfl, HV⟩ := hcut
    generalize wc = V at *
    obtain ⟨v1, v2, v3, v4⟩ := HV.out
    obtain ⟨A8, k8, c8, A9, k9, c9, j0, j1, j2, j3, -, -, -, -, hk8, hk9, hW8, hW9⟩ := v4.cells hlt
    rw [show (tk.set i t)[i]?.getD 0 = t by rw [List.getElem?_set_self (by rw [HLEN.out]; exact hlt)]; rfl] at j0 hW8 hW9
    have HADD := Lib.hid (fun (W : World) (hW : Kp V W) => add_k (k := K + 1 + i) (by omega) ((v3.below hW).qk X5.out (by omega)) (RQ.qk (RQ.below ⟨hk8, hk9, hW8, hW9⟩ hW) (HMP.out.mono (by omega)) (by omega)))
    obtain ⟨x0, x1, x2, x3, y0, y1, y2, y3⟩ := v2.four
    have hLS : Lv (K + 1 + (i + 1)) (sm + t) := X5.out.add (HMP.out.mono (by omega))
    have HLS := Lib.hid hLS
    have hlk : ∀ j, j < n → Lv (K + 1 + (i + 1)) ((tk.set i t)[j]?.getD 0) := by
     intro j hj
     by_cases hji : j = i
     ·subst hji
      rw [List.getElem?_set_self (by rw [HLEN.out]; omega)]
      exact HMP.out.mono (by omega)
     ·rw [List.getElem?_set_ne (Ne.symm hji)]; exact (X6.out j hj).mono (by omega)
    have HLK := Lib.hid hlk
    have HST1 : Hid ((pyS p qs (i + 1)).1 = tk.set i t) := Lib.hid (by rw [HSTEP.out])
    have HST2 : Hid ((pyS p qs (i + 1)).2 = sm + t) := Lib.hid (by rw [HSTEP.out])
    have V4 := Lib.hid v4
    have V2 := Lib.hid v2
    have V1 := Lib.hid v1
    have s6 := Kp.refl V
    generalize sm + t = sm' at *
    generalize tk.set i t = tk' at *
    clear v1 v2 v3 v4 hk8 hk9 hW8 hW9 hLS hlk HV HM FI X1 X2 X3 X4 X5 X6 HA7 s5 m0 m1 m2 m3 HSTEP f10 f11 f12 f13
    go_upto_region 6 with fail
    go_region_with (first | (go_at_call 30; refine (HADD.out _ (Kp.drew s6)).mono ?_; rintro e v8 ⟨B5, j5, d5, B6, j6, d6, rfl, hk5, hk6, hW5, hW6, hF5, hF6, hb4⟩; have hp4 : Kp V v8 := Kp.trans (Kp.drew s6) hb4; obtain ⟨i0, i1, i2, i3, i4, i5, i6, i7⟩ := (Kp.blk hp4 V2.out).four; clear hb4))
    all_goals
     have e8 : (((v8.setCell ⟨w.heap.size, 0, none⟩ (.bool (decide (sm'.num < 0)))).setCell ⟨w.heap.size, 1, none⟩ (.slice B5 j5 d5)).setCell ⟨w.heap.size, 2, none⟩ (.bool false)).setCell ⟨w.heap.size, 3, none⟩ (.slice B6 j6 d6) = qst v8 w.heap.size 0 (decide (sm'.num < 0)) false B5 B6 j5 d5 j6 d6 := rfl
     rw [e8]
     have hx8 := Kp.blk hp4 V2.out
     have hfin : FiR K n w.heap.size (w.heap.size + 1) W0 (i + 1) tk' sm' (qst v8 w.heap.size 0 (decide (sm'.num < 0)) false B5 B6 j5 d5 j6 d6) :=
      ⟨(V1.out.call hp4).put (Or.inl rfl), ⟨B5, j5, d5, B6, j6, d6, hx8.put4, RQ.put4 ⟨hk5, hk6, hW5, hW6⟩ hx8 NoInt.four⟩, (V4.out.below hp4).far4 (by omega) hx8 NoInt.four, HLS.out, HLK.out⟩
     have HF := Lib.hid hfin
     generalize qst v8 w.heap.size 0 (decide (sm'.num < 0)) false B5 B6 j5 d5 j6 d6 = W8 at *
     clear e8 hfin hx8 hk5 hk6 hW5 hW6 hF5 hF6 i0 i1 i2 i3 i4 i5 i6 i7 hp4
     clear V1 V2 V4 HADD HLS HLK x0 x1 x2 x3 y0 y1 y2 y3 j0 j1 j2 j3 s6
     go_wp2
     go_roundw
     case rel => exact ⟨i + 1, by omega, by go_num, by rw [HST1.out, HST2.out]; exact HF.out⟩
     case measure => simp [intOf]; omega
  ·obtain rfl : i = n := by omega
   obtain ⟨x1, ⟨A5, k5, c5, A6, k6, c6, x2, x3⟩, x4, x5, x6⟩ := hX.out
   have hs0 : w.heap.size + 1 < W0.heap.size := by have := HSZ.out; omega
   have hB : Below w.heap.size w wr := x1.below HBW.out (by omega) (by omega) (by omega)
   obtain ⟨r0, r1, r2, r3, i4, i5, i6, i7⟩ := x2.four
   generalize he1 : (pyS p qs i).1 = tk at *
   generalize he2 : (pyS p qs i).2 = sm at *
   have HE := Lib.hid (And.intro he1 he2)
   clear he1 he2
   have hres : ∀ w', w' = (qst wr w.heap.size 0 (decide (sm.num < 0)) false A5 A6 k5 c5 k6 c6).drew → (∃ cs, Blk w' w.heap.size 31 cs ∧ cs = #[.bool (decide (sm.num < 0)), .slice A5 k5 c5, .bool false, .slice A6 k6 c6]) ∧ QRow w' (w.heap.size + 1) i tk ∧ RQ w' sm A5 k5 c5 A6 k6 c6 ∧ Below w.heap.size w w' := by
    rintro w' rfl
    have hd := fun W : World => Below.drew (Below.refl W.heap.size W)
    exact ⟨⟨_, (x2.put4).below (hd _) (x2.put4).lt, rfl⟩, (x4.far4 (by omega) x2 NoInt.four).below (hd _), (x3.put4 x2 NoInt.four).below (hd _), Below.drew (below_qst hB (by omega))⟩
   have HRES := Lib.hid hres
   have HL6 := Lib.hid x6
   have HL5 := Lib.hid x5
   clear hX x1 x2 x3 x4 x5 x6 hB hres
   go_wp2_with fail
   go_region_with (fail)
   all_goals
    have e9 : (((wr.setCell ⟨w.heap.size, 0, none⟩ (.bool (decide (sm.num < 0)))).setCell ⟨w.heap.size, 1, none⟩ (.slice A5 k5 c5)).setCell ⟨w.heap.size, 2, none⟩ (.bool false)).setCell ⟨w.heap.size, 3, none⟩ (.slice A6 k6 c6) = qst wr w.heap.size 0 (decide (sm.num < 0)) false A5 A6 k5 c5 k6 c6 := rfl
    rw [e9]
    obtain ⟨⟨cs, hcs, rfl⟩, hq1, hq2, hq3⟩ := HRES.out _ rfl
    generalize (qst wr w.heap.size 0 (decide (sm.num < 0)) false A5 A6 k5 c5 k6 c6).drew = W9 at *
    obtain ⟨d0, d1, d2, d3, -, -, -, -⟩ := hcs.four
    have HF := Lib.hid (And.intro hq1 (And.intro hq2 hq3))
    clear e9 hcs hq1 hq2 hq3 HRES i4 i5 i6 i7 r0 r1 r2 r3
    go_wp2
    refine bodyPost_ret (v := .tuple #[.slice (some ⟨w.heap.size + 1, 0, none⟩) i i, .agg #[.bool (decide (sm.num < 0)), .slice A5 k5 c5, .bool false, .slice A6 k6 c6]]) ?_ rfl ?_
    ·simp [results, Tryz.results18, go_sem, d0, d1, d2, d3]
    ·rw [HPQ.out, HE.out.1, HE.out.2]
     exact ⟨_, A5, k5, c5, A6, k6, c6, rfl, HF.out.1, HF.out.2.1, by omega, HL6.out, HL5.out, HF.out.2.2⟩

end Go.Proofs.YtodkhjihkkmplaaGreat
