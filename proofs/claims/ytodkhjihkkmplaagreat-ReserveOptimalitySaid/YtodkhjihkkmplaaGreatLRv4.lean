/-
ReserveOptimality: its walk. No statement of the seat is proved here; no conditions beyond those of each theorem.
-/
import Derived.Test.YtodkhjihkkmplaaGreatLQC
import Derived.Test.YtodkhjihkkmplaaGreatLRt7
import Derived.Test.YtodkhjihkkmplaaGreatLRu4
import Derived.Test.YtodkhjihkkmplaaGreatLSp
namespace Go.Proofs.YtodkhjihkkmplaaGreat
set_option linter.unusedVariables false
set_option linter.unusedSimpArgs false
open Go.RowKit
open Wd

/-- Two running sums in their boxes, all below them kept. -/
def SmI (g : Nat) (V : World) (f h : Nat → Rat) (i : Nat) (wr : World) : Prop :=
  Below g V wr ∧ ∃ A k c A' k' c' B j d B' j' d', Blk wr g 31 #[.bool (decide ((Rv.sumF f i).num < 0)), .slice A k c, .bool false, .slice A' k' c'] ∧ RQ wr (Rv.sumF f i) A k c A' k' c' ∧
    Blk wr (g + 1) 31 #[.bool (decide ((Rv.sumF h i).num < 0)), .slice B j d, .bool false, .slice B' j' d'] ∧ RQ wr (Rv.sumF h i) B j d B' j' d'
section
variable {w v w0 : World} {g g' B : Nat} {t t' : TypeId} {a b : Bool} {A A' : Option Addr} {k c k' c' : Nat}
theorem q_blk {x0 x1 x2 x3 : Value} (hv : qst w g 0 a b A A' k c k' c' = v) (h : Blk w g t #[x0, x1, x2, x3]) : Blk v g t #[.bool a, .slice A k c, .bool b, .slice A' k' c'] := hv ▸ h.put4
theorem q_far {cs : Array Value} (hv : qst w g 0 a b A A' k c k' c' = v) (h : Blk w g' t' cs) (hne : g' ≠ g) : Blk v g' t' cs := hv ▸ h.far4 hne
theorem q_rq {x0 x2 : Bool} {X1 X3 : Option Addr} {n1 n2 n3 n4 : Nat} {q : Rat} {P R : Option Addr} {p1 p2 p3 p4 : Nat} (hv : qst w g 0 a b A A' k c k' c' = v) (h : Blk w g t #[.bool x0, .slice X1 n1 n2, .bool x2, .slice X3 n3 n4]) (hq : RQ w q P p1 p2 R p3 p4) : RQ v q P p1 p2 R p3 p4 := hv ▸ hq.put4 h NoInt.four
theorem q_below (hv : qst w g 0 a b A A' k c k' c' = v) (h : Below B w0 w) (hg : B ≤ g) : Below B w0 v := hv ▸ below_qst h hg
end
theorem sm_next {g : Nat} {V v : World} {f h : Nat → Rat} {i : Nat} {sf2 sh2 : Rat} {A A' B B' : Option Addr} {k c k' c' j d j' d' : Nat} (h1 : Rv.sumF f (i + 1) = sf2) (h2 : Rv.sumF h (i + 1) = sh2) (hb : Below g V v)
    (b1 : Blk v g 31 #[.bool (decide (sf2.num < 0)), .slice A k c, .bool false, .slice A' k' c']) (r1 : RQ v sf2 A k c A' k' c') (b2 : Blk v (g + 1) 31 #[.bool (decide (sh2.num < 0)), .slice B j d, .bool false, .slice B' j' d']) (r2 : RQ v sh2 B j d B' j' d') : SmI g V f h (i + 1) v := by
  refine ⟨hb, A, k, c, A', k', c', B, j, d, B', j', d', ?_⟩
  rw [h1, h2]
  exact ⟨b1, r1, b2, r2⟩
theorem kp_cell {w w' : World} {p : Addr} {v : Value} (hk : Kp w w') (h : w.cell? p = some v) : w'.cell? p = some v := (Below.cell hk (World.block_lt_of_cell? _ _ h)).trans h
theorem cmp_nn {a b : Rat} (h : ¬ a < b) : decide (0 ≤ cmpQ a b) = true := by
  unfold cmpQ
  rw [if_neg h]
  split <;> rfl
theorem cmp_zero (a b : Rat) : decide (cmpQ a b = 0) = decide (a = b) := by
  unfold cmpQ
  by_cases h : a < b
  · simp [h, Rat.ne_of_lt h]
  · by_cases h2 : b < a
    · simp [h, h2, (Rat.ne_of_lt h2).symm]
    · have : a = b := Rat.le_antisymm (Rat.not_lt.1 h2) (Rat.not_lt.1 h)
      simp [this]
set_option maxRecDepth 100000 in
set_option maxHeartbeats 4000000 in
theorem opt30_any (A B C D : Option Addr) (n c m d p pc q qc : Nat) (us : List Un) (bs : List Bool) (es es2 : List QE) (need : Int) (w : World) (h : UsRaw w A n us) (h' : BsAt w B m bs) (hg : QsAtR w C p es) (hgs : es.any bigQ = false → ∃ qs, GsAt 0 w C p qs) (hg2 : QsAtR w D q es2) (hgs2 : es2.any bigQ = false → ∃ ps, GsAt 0 w D q ps) (hne : Fits need) :
    Calls Tryz.prog 7 #[.slice A n c, .slice B m d, .slice C p pc, .int .i64 need, .slice D q qc] w fun e w' => e = .returned (.bool true) ∧ Below w.heap.size w w' := by
  have TL := Lib.hid (long30_any A B C n c m d p pc us bs es w h h'.1 hg)
  by_cases hL : long30B us m es = true
  · rw [hL] at TL
    clear h h' hg hgs hL hg2 hgs2
    go_enter Tryz.func7, Tryz.ntmps7
    go_wp2_with fail
    refine TL.out.mono ?_
    rintro e w1 ⟨rfl, hb1⟩
    have HB1 := Lib.hid hb1
    clear hb1 TL
    go_wp2_with fail
    refine (awake30_any _).mono ?_
    rintro e w2 ⟨rfl, hb2⟩
    have HF := Lib.hid (HB1.out.trans (hb2.mono HB1.out.size))
    clear hb2
    go_wp2
    go_ret
    exact ⟨rfl, HF.out⟩
  have hL : long30B us m es = false := by simpa using hL
  rw [hL] at TL
  have TL2 := Lib.hid (fun (W : World) (hW : Below w.heap.size w W) => long30_any none none D 0 0 0 0 q qc [] [] es2 W ⟨rfl, fun hx => absurd rfl hx⟩ rfl (hg2.below hW))
  by_cases hL2 : long30B [] 0 es2 = true
  · rw [hL2] at TL2
    clear h h' hg hgs hL hg2 hgs2 hL2
    go_enter Tryz.func7, Tryz.ntmps7
    go_wp2_with fail
    refine TL.out.mono ?_
    rintro e w0 ⟨rfl, hb0⟩
    have T2 := TL2.out w0 hb0
    have HB0 := Lib.hid hb0
    have T2 := Lib.hid T2
    clear hb0 TL TL2
    go_wp2_with fail
    refine T2.out.mono ?_
    rintro e w1 ⟨rfl, hb1⟩
    have HB1 := Lib.hid (HB0.out.trans (hb1.mono HB0.out.size))
    clear hb1 T2
    go_wp2_with fail
    refine (awake30_any _).mono ?_
    rintro e w2 ⟨rfl, hb2⟩
    have HF := Lib.hid (HB1.out.trans (hb2.mono HB1.out.size))
    clear hb2
    go_wp2
    go_ret
    exact ⟨rfl, HF.out⟩
  have hL2 : long30B [] 0 es2 = false := by simpa using hL2
  rw [hL2] at TL2
  obtain ⟨l1, l2, l3⟩ := long30_no hL
  obtain ⟨hu, hn30, hm30⟩ := h.at l1
  obtain ⟨qs, hq⟩ := hgs l3
  obtain ⟨-, l5, l6⟩ := long30_no hL2
  obtain ⟨ps, hq2⟩ := hgs2 l6
  have hpl : p ≤ 30 := by have := hg.1; omega
  have hql : q ≤ 30 := by have := hg2.1; omega
  have hl := hu.1
  have TF := Lib.hid (fun (W : World) (hW : Below w.heap.size w W) => fill_all A B C n c m d p pc us bs qs need W (hu.below hW) (h'.below hW) (hq.below hW) (by omega) (by omega) (by omega))
  have HU := Lib.hid hu
  have HBS := Lib.hid h'
  have HQ := Lib.hid hq
  have HR := Lib.hid hq2
  have HLN := Lib.hid hl
  clear h h' hg hgs hL l1 l2 l3 hu hq hl hg2 hgs2 hL2 l5 l6 hq2
  go_enter Tryz.func7, Tryz.ntmps7
  go_wp2_with fail
  refine TL.out.mono ?_
  rintro e w0 ⟨rfl, hb0⟩
  have T2 := Lib.hid (TL2.out w0 hb0)
  have HB0 := Lib.hid hb0
  clear hb0 TL TL2
  go_wp2_with fail
  refine T2.out.mono ?_
  rintro e w00 ⟨rfl, hb0⟩
  have HB0 := Lib.hid (HB0.out.trans (hb0.mono HB0.out.size))
  clear hb0 T2
  go_wp2_with fail
  refine (awake30_any _).mono ?_
  rintro e w1 ⟨rfl, hb1⟩
  have hB1 := HB0.out.trans (hb1.mono HB0.out.size)
  have T1 := Lib.hid (TF.out w1 hB1)
  have HB1 := Lib.hid hB1
  clear hb1 hB1
  go_wp2_with fail
  refine T1.out.mono ?_
  rintro e w2 ⟨TA1, tn1, tc1, pr1, s1, F1, f1, g1, G1, i1, j1, rfl, hb2, hno1, hok1⟩
  have hx2 : Below w2.heap.size w2 (w2.alloc (.cells #[.bool s1, .slice F1 f1 g1, .bool false, .slice G1 i1 j1] 31)) := (Below.refl _ _).alloc (Nat.le_refl _) _
  have hN2 := Blk.new w2 31 #[.bool s1, .slice F1 f1 g1, .bool false, .slice G1 i1 j1]
  have H2 := Lib.hid (And.intro (HB1.out.trans ((hb2.trans (hx2.mono hb2.size)).mono HB1.out.size)) (And.intro hx2 (And.intro hN2 (And.intro hno1 hok1))))
  have HBV := Lib.hid H2.out.1
  clear T1 TF hb2 hx2 hN2 hno1 hok1
  by_cases hr : rchk us bs qs need = 0
  · obtain ⟨ord, ga, ho1, rfl, rfl, rfl, rfl, rfl, hR1, hQ1, hga, hl1, hl1'⟩ := H2.out.2.2.2.2 hr
    obtain ⟨hlaw, hsum, hrest, hfull⟩ := opt_law hr (by rw [HLN.out]; exact ho1)
    have HROW := Lib.hid (fun (y : Nat → Rat) (k : Nat) => opt_row (y := y) (m := k) hr (by rw [HLN.out]; exact ho1))
    have hroom : ∀ i, i < n → 0 ≤ umax (us[i]?.getD U0) ∧ umax (us[i]?.getD U0) ≤ 3000000 ∧ 0 ≤ (us[i]?.getD U0).spin ∧ (us[i]?.getD U0).spin ≤ 1000000 := fun i hi => by
      obtain ⟨k1, k2, k3⟩ := echk_ok (rchk_ok hr).1
      have hm := k3 _ (getD_mem (d := U0) (l := us) (k := i) (by rw [HLN.out]; exact hi))
      have := uchk_ok hm
      have := uchk_spin hm
      have := uchk_spin2 hm
      omega
    have hn5 : n ≤ 5 := by have g1 := (echk_ok (rchk_ok hr).1).1; have g3 := HLN.out; omega
    have hpn : p = n := by have g1 := (rchk_ok hr).2.1; have g2 := HQ.out.1; have g3 := HLN.out; omega
    have hmn : m = n := by have g1 := (echk_ok (rchk_ok hr).1).2.1; have g2 := HBS.out.1; have g3 := HLN.out; omega
    have hneed : 0 ≤ need ∧ need ≤ 1000000 := by have g1 := (rchk_ok hr).2.2.2; omega
    have HPM := Lib.hid (And.intro hpn (And.intro hmn (And.intro hn5 hneed)))
    rw [hr]
    have hR1 := hR1.below H2.out.2.1
    have hQ1 := hQ1.below H2.out.2.1
    have hlen1 : (fillV us bs qs need ord).tk.length = n := hR1.1
    generalize (fillV us bs qs need ord).tk = t1 at *
    generalize (fillV us bs qs need ord).rest = r1 at *
    generalize (fillV us bs qs need ord).price = p1 at *
    have HM := Lib.hid (And.intro (fun i (hi : i < n) => hlaw i (by rw [HLN.out]; exact hi)) (And.intro hroom (And.intro hsum (And.intro hrest hfull))))
    have HR1 := Lib.hid (And.intro hR1 (And.intro hl1 (And.intro hQ1 hl1')))
    have HX := Lib.hid H2.out.2.2.1
    have z0 : ((n : Int) != (n : Int)) = false := by simp
    have TZ := Lib.hid (fun W => qfromInt64_any 0 W (by omega) (by omega))
    clear hr H2 ho1 hlaw hroom hsum hrest hfull hR1 hQ1 hga hl1 hl1' hpn hmn hn5 hneed hlen1
    go_wp2_with fail
    generalize w2.alloc (.cells #[.bool (decide (r1.num < 0)), .slice F1 f1 g1, .bool false, .slice G1 i1 j1] 31) = V2 at *
    refine (TZ.out _).mono ?_
    rintro e w4 ⟨F3, f3, g3, G3, i3, j3, rfl, hz1, hz2, hz3, hz4, -, -, hb4⟩
    have H4 := Lib.hid (And.intro (show RQ w4 ((0 : Int) : Rat) F3 f3 g3 G3 i3 j3 from ⟨hz1, hz2, hz3, hz4⟩) hb4)
    clear hz1 hz2 hz3 hz4 hb4
    go_wp2_with fail
    refine (TZ.out _).mono ?_
    rintro e w5 ⟨F4, f4, g4, G4, i4, j4, rfl, hz1, hz2, hz3, hz4, -, -, hb5⟩
    have H5 := Lib.hid (And.intro (show RQ w5 ((0 : Int) : Rat) F4 f4 g4 G4 i4 j4 from ⟨hz1, hz2, hz3, hz4⟩) hb5)
    clear hz1 hz2 hz3 hz4 hb5 TZ
    go_wp2_with fail
    have hx5 : Below w5.heap.size w5 ((w5.alloc (.cells #[.bool false, .slice F3 f3 g3, .bool false, .slice G3 i3 j3] 31)).alloc (.cells #[.bool false, .slice F4 f4 g4, .bool false, .slice G4 i4 j4] 31)) := ((Below.refl _ _).alloc (Nat.le_refl _) _).alloc (by simp only [World.size_alloc]; omega) _
    have hB15 : Blk ((w5.alloc (.cells #[.bool false, .slice F3 f3 g3, .bool false, .slice G3 i3 j3] 31)).alloc (.cells #[.bool false, .slice F4 f4 g4, .bool false, .slice G4 i4 j4] 31)) w5.heap.size 31 #[.bool false, .slice F3 f3 g3, .bool false, .slice G3 i3 j3] := (Blk.new w5 31 #[.bool false, .slice F3 f3 g3, .bool false, .slice G3 i3 j3]).alloc _
    have hB16 : Blk ((w5.alloc (.cells #[.bool false, .slice F3 f3 g3, .bool false, .slice G3 i3 j3] 31)).alloc (.cells #[.bool false, .slice F4 f4 g4, .bool false, .slice G4 i4 j4] 31)) (w5.heap.size + 1) 31 #[.bool false, .slice F4 f4 g4, .bool false, .slice G4 i4 j4] := Blk.new1 w5 (.cells #[.bool false, .slice F3 f3 g3, .bool false, .slice G3 i3 j3] 31) 31 #[.bool false, .slice F4 f4 g4, .bool false, .slice G4 i4 j4]
    have HA := Lib.hid (And.intro (Kp.trans (Kp.trans H4.out.2 H5.out.2) hx5) (And.intro (Nat.le_trans H4.out.2.size H5.out.2.size) (And.intro hB15 (And.intro ((H4.out.1.below H5.out.2).below hx5) (And.intro hB16 (H5.out.1.below hx5))))))
    clear hx5 hB15 hB16 H4 H5
    generalize (w5.alloc (.cells #[.bool false, .slice F3 f3 g3, .bool false, .slice G3 i3 j3] 31)).alloc (.cells #[.bool false, .slice F4 f4 g4, .bool false, .slice G4 i4 j4] 31) = V at *
    generalize w5.heap.size = gs at *
    clear w4 w5
    go_loopw [17, 18] (fun fl t wr => ∃ i : Nat, i ≤ n ∧ fl = .bool (fullV (Rv.gt t1) (rmR us bs qs) i) ∧ t = .int .i64 (i : Int) ∧ Hid (SmI gs V (Rv.gt t1) (fun i => Rv.gt t1 i * (((us[i]?.getD U0).spin : Int) : Rat)) i wr)) (fun _ t _ => n - (intOf t).toNat)
    case atStart => exact ⟨0, Nat.zero_le _, rfl, rfl, Lib.hid ⟨Below.refl _ _, F3, f3, g3, G3, i3, j3, F4, f4, g4, G4, i4, j4, HA.out.2.2.1, HA.out.2.2.2.1, HA.out.2.2.2.2.1, HA.out.2.2.2.2.2⟩⟩
    case round =>
      obtain ⟨i, hi, rfl, rfl, hI⟩ := hrel
      have h2r := Below.trans HA.out.1 (hI.out.1.mono HA.out.2.1)
      have hwr := HBV.out.trans (h2r.mono HBV.out.size)
      have HBL := Lib.hid hI.out.1
      obtain ⟨-, AS, ks, cs, BS, js, ds, AC, kc, cc, BC, jc, dc, hb15, hq15, hb16, hq16⟩ := hI.out
      obtain ⟨u0, u1, u2, u3, -, -, -, -⟩ := hb15.four
      obtain ⟨y0, y1, y2, y3, -, -, -, -⟩ := hb16.four
      have HB15r := Lib.hid hb15
      have HB16r := Lib.hid hb16
      have HWR := Lib.hid hwr
      have HGL := Lib.hid (Nat.le_of_lt hb15.lt)
      have hls : Lv (7 + i) (Rv.sumF (Rv.gt t1) i) := sumF_lv (K := 6) (fun j hj => HR1.out.2.1 j (by omega))
      have hlc : Lv (8 + i) (Rv.sumF (fun i => Rv.gt t1 i * (((us[i]?.getD U0).spin : Int) : Rat)) i) := sumF_lv (K := 7) (fun j hj => (HR1.out.2.1 j (by omega)).mul (lv_int 6 (by have := HM.out.2.1 j (by omega); omega)))
      by_cases hlt : i < n
      · have him : i < m := by have := HPM.out; omega
        have hip : i < p := by have := HPM.out; omega
        obtain ⟨b, o, rfl, hb, hcell⟩ := HU.out.2 (by omega)
        obtain ⟨b', o', rfl, hb', hcell'⟩ := HBS.out.2 (by omega)
        obtain ⟨b2, o2, rfl, hb2, hcell2⟩ := HQ.out.2 (by omega)
        have hRa := HR1.out.1.below h2r
        obtain ⟨A5, k5, c5, A6, k6, c6, x0, x1, x2, x3, -, -, -, -, hk5, hk6, hW5, hW6⟩ := hRa.cells hlt
        have hga : ga < wr.heap.size := by obtain ⟨_, _, hx, _⟩ := hRa; exact hx.lt
        have hun := (hcell i hlt).below hb hwr
        have hon := (Below.cell hwr (p := ⟨b', o' + i, none⟩) hb').trans (hcell' i him)
        obtain ⟨an, aA, ak, ac, an', aA', ak', ac', z1, z2, z3, z4, hq⟩ := hcell2 i hip
        have z1 := (Below.cell hwr (p := ⟨b2, o2 + i * 4, none⟩) hb2).trans z1
        have z2 := (Below.cell hwr (p := ⟨b2, o2 + i * 4 + 1, none⟩) hb2).trans z2
        have z3 := (Below.cell hwr (p := ⟨b2, o2 + i * 4 + 2, none⟩) hb2).trans z3
        have z4 := (Below.cell hwr (p := ⟨b2, o2 + i * 4 + 3, none⟩) hb2).trans z4
        have hq := hq.below hwr
        have hbr : b < wr.heap.size := Nat.lt_of_lt_of_le hb (Below.size hwr)
        have hbr' : b' < wr.heap.size := Nat.lt_of_lt_of_le hb' (Below.size hwr)
        have hbr2 : b2 < wr.heap.size := Nat.lt_of_lt_of_le hb2 (Below.size hwr)
        have ult := hb15.lt
        have ylt := hb16.lt
        obtain ⟨m1, m2⟩ := HM.out.1 i hlt
        obtain ⟨m5, m6, m7, m8⟩ := HM.out.2.1 i hlt
        have hstf : Rv.sumF (Rv.gt t1) (i + 1) = Rv.sumF (Rv.gt t1) i + t1[i]?.getD 0 := rfl
        have hsth : Rv.sumF (fun i => Rv.gt t1 i * (((us[i]?.getD U0).spin : Int) : Rat)) (i + 1) = Rv.sumF (fun i => Rv.gt t1 i * (((us[i]?.getD U0).spin : Int) : Rat)) i + t1[i]?.getD 0 * (((us[i]?.getD U0).spin : Int) : Rat) := rfl
        have hstb : fullV (Rv.gt t1) (rmR us bs qs) (i + 1) = (fullV (Rv.gt t1) (rmR us bs qs) i && decide (t1[i]?.getD 0 = roomV (bs[i]?.getD false) (us[i]?.getD U0) (qs[i]?.getD 0))) := rfl
        unfold Rv.gt at m1 m2
        unfold rmR at m2
        have hla := HR1.out.2.1 i hlt
        generalize fullV (Rv.gt t1) (rmR us bs qs) i = fb at *
        generalize Rv.sumF (Rv.gt t1) i = sf at *
        generalize Rv.sumF (fun i => Rv.gt t1 i * (((us[i]?.getD U0).spin : Int) : Rat)) i = sh at *
        generalize bs[i]?.getD false = bk at *
        generalize us[i]?.getD U0 = un at *
        generalize qs[i]?.getD 0 = q at *
        generalize t1[i]?.getD 0 = ta at *
        obtain ⟨bus, mn, st, up, dn, start, idle, spin, on⟩ := un
        obtain ⟨A', n', c', ⟨f1, f2, f3, f4, f5, f6, f7, f8, f9⟩, hs, hn'⟩ := hun
        simp only at f1 f2 f3 f4 f5 f6 f7 f8 f9 hs m2 m7 m8 hstb hsth
        have TS0 := Lib.hid (fun (W : World) (hW : Kp wr W) => sign_k ((RQ.below ⟨hk5, hk6, hW5, hW6⟩ hW).qk (K := 6) hla (by omega)))
        have hlr : Lv 1 (roomV bk ⟨bus, mn, st, up, dn, start, idle, spin, on⟩ q) := by
          unfold roomV
          split
          · exact (lv_int 0 (by omega)).sub hq.lv
          · exact lv_int 1 (by decide)
        have TR := Lib.hid (fun (W : World) (hW : Kp wr W) => room_any 0 (by omega) bk bus mn up dn start idle spin on A' aA aA' n' c' ak ac ak' ac' an an' st q W (hs.below hW) hn' (hq.below hW) m5 m6)
        generalize roomV bk ⟨bus, mn, st, up, dn, start, idle, spin, on⟩ q = rv at *
        have TC := Lib.hid (fun (W : World) (hW : Kp wr W) (R R' : Option Addr) (k d k' d' : Nat) (h : RQ W rv R k d R' k' d') => cmp_k (k := 6) (RQ.qk (RQ.below ⟨hk5, hk6, hW5, hW6⟩ hW) hla (by omega)) (h.qk (hlr.mono (show 1 ≤ 6 by omega)) (by omega)))
        have e1 : decide (0 < cmpQ ta rv) = false := by rw [cmp_pos]; exact decide_eq_false (Rat.not_lt.2 m2)
        have e2 : decide (sgnQ ta < 0) = false := by rw [sgn_neg]; exact decide_eq_false (Rat.not_lt.2 m1)
        rw [← cmp_zero] at hstb
        have TFI := Lib.hid (fun (W : World) => qfromInt64_any spin W (by omega) (by omega))
        have hlsp := lv_int 6 (z := spin) (by omega)
        have TM := Lib.hid (fun (W : World) (hW : Kp wr W) (R R' : Option Addr) (k d k' d' : Nat) (h : RQ W ((spin : Int) : Rat) R k d R' k' d') => mul_k (k := 6) (by omega) (RQ.qk (RQ.below ⟨hk5, hk6, hW5, hW6⟩ hW) hla (by omega)) (h.qk hlsp (by omega)))
        have hltm := hla.mul hlsp
        generalize ta * ((spin : Int) : Rat) = tm at *
        generalize ((spin : Int) : Rat) = fs at *
        have TA1 := Lib.hid (fun (W : World) (hW : Kp wr W) => add_k (k := 7 + i) (by have := HPM.out; omega) ((hq15.below hW).qk hls (by have := HPM.out; omega)) (RQ.qk (RQ.below ⟨hk5, hk6, hW5, hW6⟩ hW) (hla.mono (by omega)) (by have := HPM.out; omega)))
        have TA2 := Lib.hid (fun (W : World) (hW : Kp wr W) (R R' : Option Addr) (k d k' d' : Nat) (h : RQ W tm R k d R' k' d') => add_k (k := 8 + i) (by have := HPM.out; omega) ((hq16.below hW).qk hlc (by have := HPM.out; omega)) (h.qk (hltm.mono (by omega)) (by have := HPM.out; omega)))
        generalize sf + ta = sf2 at *
        generalize sh + tm = sh2 at *
        have HSTF := Lib.hid hstf
        have HSTH := Lib.hid hsth
        have HSTB := Lib.hid hstb
        have hki1 : (0 : Int) ≤ (i : Int) := by omega
        have hki2 : (i : Int) < (n : Int) := by omega
        have hki3 : (i : Int) < (m : Int) := by omega
        have hki4 : (i : Int) < (p : Int) := by omega
        have HS := Lib.hid (show ∀ w', Kp wr w' → (w'.cell? ⟨ga, i * 4, none⟩ = some (.bool (decide (ta.num < 0))) ∧ w'.cell? ⟨ga, i * 4 + 1, none⟩ = some (.slice A5 k5 c5) ∧ w'.cell? ⟨ga, i * 4 + 2, none⟩ = some (.bool false) ∧ w'.cell? ⟨ga, i * 4 + 3, none⟩ = some (.slice A6 k6 c6) ∧ w'.cell? ⟨b, o + i * 9, none⟩ = some (.int .i64 bus) ∧ w'.cell? ⟨b, o + i * 9 + 1, none⟩ = some (.int .i64 mn) ∧ w'.cell? ⟨b, o + i * 9 + 2, none⟩ = some (.slice A' n' c') ∧ w'.cell? ⟨b, o + i * 9 + 3, none⟩ = some (.int .i64 up) ∧ w'.cell? ⟨b, o + i * 9 + 4, none⟩ = some (.int .i64 dn) ∧ w'.cell? ⟨b, o + i * 9 + 5, none⟩ = some (.int .i64 start) ∧ w'.cell? ⟨b, o + i * 9 + 6, none⟩ = some (.int .i64 idle) ∧ w'.cell? ⟨b, o + i * 9 + 7, none⟩ = some (.int .i64 spin) ∧ w'.cell? ⟨b, o + i * 9 + 8, none⟩ = some (.int .i64 on) ∧ w'.cell? ⟨b', o' + i, none⟩ = some (.bool bk) ∧ w'.cell? ⟨b2, o2 + i * 4, none⟩ = some (.bool an) ∧ w'.cell? ⟨b2, o2 + i * 4 + 1, none⟩ = some (.slice aA ak ac) ∧ w'.cell? ⟨b2, o2 + i * 4 + 2, none⟩ = some (.bool an') ∧ w'.cell? ⟨b2, o2 + i * 4 + 3, none⟩ = some (.slice aA' ak' ac')) ∧ Kp wr w' from fun w' hk => ⟨⟨(Below.cell hk (p := ⟨ga, _, none⟩) hga).trans x0, (Below.cell hk (p := ⟨ga, _, none⟩) hga).trans x1, (Below.cell hk (p := ⟨ga, _, none⟩) hga).trans x2, (Below.cell hk (p := ⟨ga, _, none⟩) hga).trans x3, (Below.cell hk (p := ⟨b, _, none⟩) hbr).trans f1, (Below.cell hk (p := ⟨b, _, none⟩) hbr).trans f2, (Below.cell hk (p := ⟨b, _, none⟩) hbr).trans f3, (Below.cell hk (p := ⟨b, _, none⟩) hbr).trans f4, (Below.cell hk (p := ⟨b, _, none⟩) hbr).trans f5, (Below.cell hk (p := ⟨b, _, none⟩) hbr).trans f6, (Below.cell hk (p := ⟨b, _, none⟩) hbr).trans f7, (Below.cell hk (p := ⟨b, _, none⟩) hbr).trans f8, (Below.cell hk (p := ⟨b, _, none⟩) hbr).trans f9, (Below.cell hk (p := ⟨b', _, none⟩) hbr').trans hon, (Below.cell hk (p := ⟨b2, _, none⟩) hbr2).trans z1, (Below.cell hk (p := ⟨b2, _, none⟩) hbr2).trans z2, (Below.cell hk (p := ⟨b2, _, none⟩) hbr2).trans z3, (Below.cell hk (p := ⟨b2, _, none⟩) hbr2).trans z4⟩, hk⟩)
        have HTK := Lib.hid (fun w' (hk : Kp wr w') => show w'.cell? ⟨ga, i * 4, none⟩ = some (.bool (decide (ta.num < 0))) ∧ w'.cell? ⟨ga, i * 4 + 1, none⟩ = some (.slice A5 k5 c5) ∧ w'.cell? ⟨ga, i * 4 + 2, none⟩ = some (.bool false) ∧ w'.cell? ⟨ga, i * 4 + 3, none⟩ = some (.slice A6 k6 c6) from ⟨(Below.cell hk (p := ⟨ga, _, none⟩) hga).trans x0, (Below.cell hk (p := ⟨ga, _, none⟩) hga).trans x1, (Below.cell hk (p := ⟨ga, _, none⟩) hga).trans x2, (Below.cell hk (p := ⟨ga, _, none⟩) hga).trans x3⟩)
        have hk0 := Kp.refl wr
        have i1 : IntKind.i64.wrap ((i : Int) + 1) = ((i + 1 : Nat) : Int) := IntWalk.i64_in _ (by omega)
        generalize cmpQ ta rv = cv at *
        generalize sgnQ ta = sv at *
        clear hb hb' hb2 hcell hcell' hcell2 hI h2r hwr hRa hk5 hk6 hW5 hW6 hq hs hn' m1 m2 m5 m6 m7 m8 hla hls hlc hlr hlsp hltm hb15 hb16 hq15 hq16 hstf hsth hstb
        cases fb
        · go_wp2_with fail
          refine wp_region_held_drew (S := fun w' => (w'.cell? ⟨ga, i * 4, none⟩ = some (.bool (decide (ta.num < 0))) ∧ w'.cell? ⟨ga, i * 4 + 1, none⟩ = some (.slice A5 k5 c5) ∧ w'.cell? ⟨ga, i * 4 + 2, none⟩ = some (.bool false) ∧ w'.cell? ⟨ga, i * 4 + 3, none⟩ = some (.slice A6 k6 c6) ∧ w'.cell? ⟨b, o + i * 9, none⟩ = some (.int .i64 bus) ∧ w'.cell? ⟨b, o + i * 9 + 1, none⟩ = some (.int .i64 mn) ∧ w'.cell? ⟨b, o + i * 9 + 2, none⟩ = some (.slice A' n' c') ∧ w'.cell? ⟨b, o + i * 9 + 3, none⟩ = some (.int .i64 up) ∧ w'.cell? ⟨b, o + i * 9 + 4, none⟩ = some (.int .i64 dn) ∧ w'.cell? ⟨b, o + i * 9 + 5, none⟩ = some (.int .i64 start) ∧ w'.cell? ⟨b, o + i * 9 + 6, none⟩ = some (.int .i64 idle) ∧ w'.cell? ⟨b, o + i * 9 + 7, none⟩ = some (.int .i64 spin) ∧ w'.cell? ⟨b, o + i * 9 + 8, none⟩ = some (.int .i64 on) ∧ w'.cell? ⟨b', o' + i, none⟩ = some (.bool bk) ∧ w'.cell? ⟨b2, o2 + i * 4, none⟩ = some (.bool an) ∧ w'.cell? ⟨b2, o2 + i * 4 + 1, none⟩ = some (.slice aA ak ac) ∧ w'.cell? ⟨b2, o2 + i * 4 + 2, none⟩ = some (.bool an') ∧ w'.cell? ⟨b2, o2 + i * 4 + 3, none⟩ = some (.slice aA' ak' ac')) ∧ Kp wr w') (by kernel_rfl) (HS.out _ (Kp.drew hk0)) (fun hHeld => ?_)
          refine wpAnyH_take (i := 0) (v := ?v34) rfl (by kernel_rfl) (by kernel_rfl) (by kernel_rfl) (fun _ _ _ h => h) (Or.inl ⟨by rfl, ?y34⟩) (by assumption) ?r34
          case y34 => (intro w hSw; (try dsimp only at hSw); (try simp only [List.getElem_toArray, List.getElem_cons_zero, List.getElem_cons_succ]); go_simp; first | done | with_reducible rfl)
          (try simp only [Act.put, List.getElem_toArray, List.getElem_cons_zero, List.getElem_cons_succ, List.setIfInBounds_toArray, List.set_cons_zero, List.set_cons_succ])
          refine wpAnyH_take (i := 1) (v := ?v35) rfl (by kernel_rfl) (by kernel_rfl) (by kernel_rfl) (fun _ _ _ h => h) (Or.inl ⟨by rfl, ?y35⟩) (by assumption) ?r35
          case y35 => (intro w hSw; (try dsimp only at hSw); (try simp only [List.getElem_toArray, List.getElem_cons_zero, List.getElem_cons_succ]); go_simp; first | done | with_reducible rfl)
          (try simp only [Act.put, List.getElem_toArray, List.getElem_cons_zero, List.getElem_cons_succ, List.setIfInBounds_toArray, List.set_cons_zero, List.set_cons_succ])
          refine wpAnyH_take (i := 2) (v := ?v36) rfl (by kernel_rfl) (by kernel_rfl) (by kernel_rfl) (fun _ _ _ h => h) (Or.inl ⟨by rfl, ?y36⟩) (by assumption) ?r36
          case y36 => (intro w hSw; (try dsimp only at hSw); (try simp only [List.getElem_toArray, List.getElem_cons_zero, List.getElem_cons_succ]); go_simp; first | done | with_reducible rfl)
          (try simp only [Act.put, List.getElem_toArray, List.getElem_cons_zero, List.getElem_cons_succ, List.setIfInBounds_toArray, List.set_cons_zero, List.set_cons_succ])
          refine wpAnyH_take (i := 3) (v := ?v37) rfl (by kernel_rfl) (by kernel_rfl) (by kernel_rfl) (fun _ _ _ h => h) (Or.inl ⟨by rfl, ?y37⟩) (by assumption) ?r37
          case y37 => (intro w hSw; (try dsimp only at hSw); (try simp only [List.getElem_toArray, List.getElem_cons_zero, List.getElem_cons_succ]); go_simp; first | done | with_reducible rfl)
          (try simp only [Act.put, List.getElem_toArray, List.getElem_cons_zero, List.getElem_cons_succ, List.setIfInBounds_toArray, List.set_cons_zero, List.set_cons_succ])
          refine wpAnyH_take (i := 4) (v := ?v38) rfl (by kernel_rfl) (by kernel_rfl) (by kernel_rfl) (fun _ _ _ h => h) (Or.inl ⟨by rfl, ?y38⟩) (by assumption) ?r38
          case y38 => (intro w hSw; (try dsimp only at hSw); (try simp only [List.getElem_toArray, List.getElem_cons_zero, List.getElem_cons_succ]); go_simp; first | done | with_reducible rfl)
          (try simp only [Act.put, List.getElem_toArray, List.getElem_cons_zero, List.getElem_cons_succ, List.setIfInBounds_toArray, List.set_cons_zero, List.set_cons_succ])
          refine wpAnyH_take (i := 5) (v := ?v39) rfl (by kernel_rfl) (by kernel_rfl) (by kernel_rfl) (fun _ _ _ h => h) (Or.inl ⟨by rfl, ?y39⟩) (by assumption) ?r39
          case y39 => (intro w hSw; (try dsimp only at hSw); (try simp only [List.getElem_toArray, List.getElem_cons_zero, List.getElem_cons_succ]); go_simp; first | done | with_reducible rfl)
          (try simp only [Act.put, List.getElem_toArray, List.getElem_cons_zero, List.getElem_cons_succ, List.setIfInBounds_toArray, List.set_cons_zero, List.set_cons_succ])
          refine wpAnyH_take (i := 6) (v := ?v40) rfl (by kernel_rfl) (by kernel_rfl) (by kernel_rfl) (fun _ _ _ h => h) (Or.inl ⟨by rfl, ?y40⟩) (by assumption) ?r40
          case y40 => (intro w hSw; (try dsimp only at hSw); (try simp only [List.getElem_toArray, List.getElem_cons_zero, List.getElem_cons_succ]); go_simp; first | done | with_reducible rfl)
          (try simp only [Act.put, List.getElem_toArray, List.getElem_cons_zero, List.getElem_cons_succ, List.setIfInBounds_toArray, List.set_cons_zero, List.set_cons_succ])
          refine wpAnyH_take (i := 7) (v := ?v41) rfl (by kernel_rfl) (by kernel_rfl) (by kernel_rfl) (fun _ _ _ h => h) (Or.inl ⟨by rfl, ?y41⟩) (by assumption) ?r41
          case y41 => (intro w hSw; (try dsimp only at hSw); (try simp only [List.getElem_toArray, List.getElem_cons_zero, List.getElem_cons_succ]); go_simp; first | done | with_reducible rfl)
          (try simp only [Act.put, List.getElem_toArray, List.getElem_cons_zero, List.getElem_cons_succ, List.setIfInBounds_toArray, List.set_cons_zero, List.set_cons_succ])
          refine wpAnyH_take (i := 8) (v := ?v42) rfl (by kernel_rfl) (by kernel_rfl) (by kernel_rfl) (fun _ _ _ h => h) (Or.inl ⟨by rfl, ?y42⟩) (by assumption) ?r42
          case y42 => (intro w hSw; (try dsimp only at hSw); (try simp only [List.getElem_toArray, List.getElem_cons_zero, List.getElem_cons_succ]); go_simp; first | done | with_reducible rfl)
          (try simp only [Act.put, List.getElem_toArray, List.getElem_cons_zero, List.getElem_cons_succ, List.setIfInBounds_toArray, List.set_cons_zero, List.set_cons_succ])
          refine wpAnyH_take (i := 9) (v := ?v43) rfl (by kernel_rfl) (by kernel_rfl) (by kernel_rfl) (fun _ _ _ h => h) (Or.inl ⟨by rfl, ?y43⟩) (by assumption) ?r43
          case y43 => (intro w hSw; (try dsimp only at hSw); (try simp only [List.getElem_toArray, List.getElem_cons_zero, List.getElem_cons_succ]); go_simp; first | done | with_reducible rfl)
          (try simp only [Act.put, List.getElem_toArray, List.getElem_cons_zero, List.getElem_cons_succ, List.setIfInBounds_toArray, List.set_cons_zero, List.set_cons_succ])
          refine wpAnyH_take (i := 10) (v := ?v44) rfl (by kernel_rfl) (by kernel_rfl) (by kernel_rfl) (fun _ _ _ h => h) (Or.inl ⟨by rfl, ?y44⟩) (by assumption) ?r44
          case y44 => (intro w hSw; (try dsimp only at hSw); (try simp only [List.getElem_toArray, List.getElem_cons_zero, List.getElem_cons_succ]); go_simp; first | done | with_reducible rfl)
          (try simp only [Act.put, List.getElem_toArray, List.getElem_cons_zero, List.getElem_cons_succ, List.setIfInBounds_toArray, List.set_cons_zero, List.set_cons_succ])
          refine wpAnyH_take (i := 11) (v := ?v45) rfl (by kernel_rfl) (by kernel_rfl) (by kernel_rfl) (fun _ _ _ h => h) (Or.inl ⟨by rfl, ?y45⟩) (by assumption) ?r45
          case y45 => (intro w hSw; (try dsimp only at hSw); (try simp only [List.getElem_toArray, List.getElem_cons_zero, List.getElem_cons_succ]); go_simp; first | done | with_reducible rfl)
          (try simp only [Act.put, List.getElem_toArray, List.getElem_cons_zero, List.getElem_cons_succ, List.setIfInBounds_toArray, List.set_cons_zero, List.set_cons_succ])
          refine wpAnyH_take (i := 12) (v := ?v46) rfl (by kernel_rfl) (by kernel_rfl) (by kernel_rfl) (fun _ _ _ h => h) (Or.inl ⟨by rfl, ?y46⟩) (by assumption) ?r46
          case y46 => (intro w hSw; (try dsimp only at hSw); (try simp only [List.getElem_toArray, List.getElem_cons_zero, List.getElem_cons_succ]); go_simp; first | done | with_reducible rfl)
          (try simp only [Act.put, List.getElem_toArray, List.getElem_cons_zero, List.getElem_cons_succ, List.setIfInBounds_toArray, List.set_cons_zero, List.set_cons_succ])
          refine wpAnyH_take (i := 13) (v := ?v47) rfl (by kernel_rfl) (by kernel_rfl) (by kernel_rfl) (fun _ _ _ h => h) (Or.inl ⟨by rfl, ?y47⟩) (by assumption) ?r47
          case y47 => (intro w hSw; (try dsimp only at hSw); (try simp only [List.getElem_toArray, List.getElem_cons_zero, List.getElem_cons_succ]); go_simp; first | done | with_reducible rfl)
          (try simp only [Act.put, List.getElem_toArray, List.getElem_cons_zero, List.getElem_cons_succ, List.setIfInBounds_toArray, List.set_cons_zero, List.set_cons_succ])
          refine wpAnyH_take (i := 14) (v := ?v48) rfl (by kernel_rfl) (by kernel_rfl) (by kernel_rfl) (fun _ _ _ h => h) (Or.inl ⟨by rfl, ?y48⟩) (by assumption) ?r48
          case y48 => (intro w hSw; (try dsimp only at hSw); (try simp only [List.getElem_toArray, List.getElem_cons_zero, List.getElem_cons_succ]); go_simp; first | done | with_reducible rfl)
          (try simp only [Act.put, List.getElem_toArray, List.getElem_cons_zero, List.getElem_cons_succ, List.setIfInBounds_toArray, List.set_cons_zero, List.set_cons_succ])
          refine wpAnyH_take (i := 15) (v := ?v49) rfl (by kernel_rfl) (by kernel_rfl) (by kernel_rfl) (fun _ _ _ h => h) (Or.inl ⟨by rfl, ?y49⟩) (by assumption) ?r49
          case y49 => (intro w hSw; (try dsimp only at hSw); (try simp only [List.getElem_toArray, List.getElem_cons_zero, List.getElem_cons_succ]); go_simp; first | done | with_reducible rfl)
          (try simp only [Act.put, List.getElem_toArray, List.getElem_cons_zero, List.getElem_cons_succ, List.setIfInBounds_toArray, List.set_cons_zero, List.set_cons_succ])
          refine wpAnyH_ready (rs := [16]) (by kernel_rfl) (by simp) ?_
          refine AllReadyH.cons rfl (fun K hK => ?_) ?_
          · (try simp only [List.getElem_toArray, List.getElem_cons_zero, List.getElem_cons_succ])
            go_simp
            have hk := And.right ‹_ ∧ Kp wr _›
            refine (TR.out _ hk).mono ?_
            rintro e v2 ⟨A9, k9, c9, B9, j9, e9, rfl, hk9, hj9, hW9, hX9, -, -, hbx⟩
            have hp := Kp.trans hk hbx
            have r9 : RQ v2 (rv) A9 k9 c9 B9 j9 e9 := ⟨hk9, hj9, hW9, hX9⟩
            clear hk hbx hk9 hj9 hW9 hX9
            (try (go_wp2_with fail))
            refine hK.out _ _ ?k51 (fun hHeld51 => ?n51)
            case k51 => ((try dsimp only); first | (with_reducible refine HS.out _ ?_; with_reducible assumption) | (with_reducible refine HS.out _ (Kp.drew ?_); with_reducible assumption) | (with_reducible refine' HS.out _ (Kp.drew (And.right ?_)); rotate_left; with_reducible assumption))
            clear hK K
            (try simp only [Act.put, List.getElem_toArray, List.getElem_cons_zero, List.getElem_cons_succ, List.setIfInBounds_toArray, List.set_cons_zero, List.set_cons_succ])
            refine wpAnyH_ready (rs := [17]) (by kernel_rfl) (by simp) ?_
            refine AllReadyH.cons rfl (fun K hK => ?_) ?_
            · (try simp only [List.getElem_toArray, List.getElem_cons_zero, List.getElem_cons_succ])
              go_simp
              have hk := And.right ‹_ ∧ Kp wr _›
              refine (TC.out _ hk _ _ _ _ _ _ r9).mono ?_
              rintro e v3 ⟨rfl, hbx⟩
              have hp := Kp.trans hk hbx
              clear hk hbx r9
              (try (go_wp2_with fail))
              refine hK.out _ _ ?k53 (fun hHeld53 => ?n53)
              case k53 => ((try dsimp only); first | (with_reducible refine HS.out _ ?_; with_reducible assumption) | (with_reducible refine HS.out _ (Kp.drew ?_); with_reducible assumption) | (with_reducible refine' HS.out _ (Kp.drew (And.right ?_)); rotate_left; with_reducible assumption))
              clear hK K
              (try simp only [Act.put, List.getElem_toArray, List.getElem_cons_zero, List.getElem_cons_succ, List.setIfInBounds_toArray, List.set_cons_zero, List.set_cons_succ])
              refine wpAnyH_take (i := 18) (v := ?v54) rfl (by kernel_rfl) (by kernel_rfl) (by kernel_rfl) (fun _ _ _ h => h) (Or.inl ⟨by rfl, ?y54⟩) (by assumption) ?r54
              case y54 => (intro w hSw; (try dsimp only at hSw); (try simp only [List.getElem_toArray, List.getElem_cons_zero, List.getElem_cons_succ]); go_simp; first | done | with_reducible rfl)
              (try simp only [Act.put, List.getElem_toArray, List.getElem_cons_zero, List.getElem_cons_succ, List.setIfInBounds_toArray, List.set_cons_zero, List.set_cons_succ])
              refine wpAnyH_done (by kernel_rfl) ?_ _
              have hk6 := hp
              obtain ⟨x0', x1', x2', x3'⟩ := HTK.out _ hp
              clear hp
              (try go_wp2_with fail)
              refine (TS0.out _ hk6).mono ?_
              rintro e v4 ⟨rfl, hbx⟩
              have hk6 := Kp.trans hk6 hbx
              clear hbx x0' x1' x2' x3' TS0 TR TC
              (try go_wp2_with fail)
              have HS16 := Lib.hid (show ∀ w', Kp wr w' → (w'.cell? ⟨gs, 0, none⟩ = some (.bool (decide (sf.num < 0))) ∧ w'.cell? ⟨gs, 1, none⟩ = some (.slice AS ks cs) ∧ w'.cell? ⟨gs, 2, none⟩ = some (.bool false) ∧ w'.cell? ⟨gs, 3, none⟩ = some (.slice BS js ds) ∧ w'.cell? ⟨gs + 1, 0, none⟩ = some (.bool (decide (sh.num < 0))) ∧ w'.cell? ⟨gs + 1, 1, none⟩ = some (.slice AC kc cc) ∧ w'.cell? ⟨gs + 1, 2, none⟩ = some (.bool false) ∧ w'.cell? ⟨gs + 1, 3, none⟩ = some (.slice BC jc dc) ∧ w'.cell? ⟨ga, i * 4, none⟩ = some (.bool (decide (ta.num < 0))) ∧ w'.cell? ⟨ga, i * 4 + 1, none⟩ = some (.slice A5 k5 c5) ∧ w'.cell? ⟨ga, i * 4 + 2, none⟩ = some (.bool false) ∧ w'.cell? ⟨ga, i * 4 + 3, none⟩ = some (.slice A6 k6 c6) ∧ w'.cell? ⟨b, o + i * 9 + 7, none⟩ = some (.int .i64 spin)) ∧ Kp wr w' from fun w' hk => ⟨⟨(Below.cell hk (p := ⟨gs, _, none⟩) ult).trans u0, (Below.cell hk (p := ⟨gs, _, none⟩) ult).trans u1, (Below.cell hk (p := ⟨gs, _, none⟩) ult).trans u2, (Below.cell hk (p := ⟨gs, _, none⟩) ult).trans u3, (Below.cell hk (p := ⟨gs + 1, _, none⟩) ylt).trans y0, (Below.cell hk (p := ⟨gs + 1, _, none⟩) ylt).trans y1, (Below.cell hk (p := ⟨gs + 1, _, none⟩) ylt).trans y2, (Below.cell hk (p := ⟨gs + 1, _, none⟩) ylt).trans y3, (Below.cell hk (p := ⟨ga, _, none⟩) hga).trans x0, (Below.cell hk (p := ⟨ga, _, none⟩) hga).trans x1, (Below.cell hk (p := ⟨ga, _, none⟩) hga).trans x2, (Below.cell hk (p := ⟨ga, _, none⟩) hga).trans x3, (Below.cell hk (p := ⟨b, _, none⟩) hbr).trans f8⟩, hk⟩)
              refine wp_region_front 19 2 _ (fun w' => (w'.cell? ⟨gs, 0, none⟩ = some (.bool (decide (sf.num < 0))) ∧ w'.cell? ⟨gs, 1, none⟩ = some (.slice AS ks cs) ∧ w'.cell? ⟨gs, 2, none⟩ = some (.bool false) ∧ w'.cell? ⟨gs, 3, none⟩ = some (.slice BS js ds) ∧ w'.cell? ⟨gs + 1, 0, none⟩ = some (.bool (decide (sh.num < 0))) ∧ w'.cell? ⟨gs + 1, 1, none⟩ = some (.slice AC kc cc) ∧ w'.cell? ⟨gs + 1, 2, none⟩ = some (.bool false) ∧ w'.cell? ⟨gs + 1, 3, none⟩ = some (.slice BC jc dc) ∧ w'.cell? ⟨ga, i * 4, none⟩ = some (.bool (decide (ta.num < 0))) ∧ w'.cell? ⟨ga, i * 4 + 1, none⟩ = some (.slice A5 k5 c5) ∧ w'.cell? ⟨ga, i * 4 + 2, none⟩ = some (.bool false) ∧ w'.cell? ⟨ga, i * 4 + 3, none⟩ = some (.slice A6 k6 c6) ∧ w'.cell? ⟨b, o + i * 9 + 7, none⟩ = some (.int .i64 spin)) ∧ Kp wr w') (by kernel_rfl) (by kernel_rfl) rfl (HS16.out _ (Kp.drew hk6)) (fun hHeld => ?_)
              simp only [List.toList_toArray, List.take_succ_cons, List.take_zero]
              refine wpAnyH_take (i := 0) (v := ?v1) rfl (by kernel_rfl) (by kernel_rfl) (by kernel_rfl) (fun _ _ _ h => h) (Or.inl ⟨by rfl, ?y1⟩) (by assumption) ?r1
              case y1 => (intro w hSw; (try dsimp only at hSw); (try simp only [List.getElem_toArray, List.getElem_cons_zero, List.getElem_cons_succ]); go_simp; first | done | with_reducible rfl)
              (try simp only [Act.put, List.getElem_toArray, List.getElem_cons_zero, List.getElem_cons_succ, List.setIfInBounds_toArray, List.set_cons_zero, List.set_cons_succ])
              refine wpAnyH_take (i := 1) (v := ?v2) rfl (by kernel_rfl) (by kernel_rfl) (by kernel_rfl) (fun _ _ _ h => h) (Or.inl ⟨by rfl, ?y2⟩) (by assumption) ?r2
              case y2 => (intro w hSw; (try dsimp only at hSw); (try simp only [List.getElem_toArray, List.getElem_cons_zero, List.getElem_cons_succ]); go_simp; first | done | with_reducible rfl)
              (try simp only [Act.put, List.getElem_toArray, List.getElem_cons_zero, List.getElem_cons_succ, List.setIfInBounds_toArray, List.set_cons_zero, List.set_cons_succ])
              refine wpAnyH_take (i := 2) (v := ?v3) rfl (by kernel_rfl) (by kernel_rfl) (by kernel_rfl) (fun _ _ _ h => h) (Or.inl ⟨by rfl, ?y3⟩) (by assumption) ?r3
              case y3 => (intro w hSw; (try dsimp only at hSw); (try simp only [List.getElem_toArray, List.getElem_cons_zero, List.getElem_cons_succ]); go_simp; first | done | with_reducible rfl)
              (try simp only [Act.put, List.getElem_toArray, List.getElem_cons_zero, List.getElem_cons_succ, List.setIfInBounds_toArray, List.set_cons_zero, List.set_cons_succ])
              refine wpAnyH_take (i := 3) (v := ?v4) rfl (by kernel_rfl) (by kernel_rfl) (by kernel_rfl) (fun _ _ _ h => h) (Or.inl ⟨by rfl, ?y4⟩) (by assumption) ?r4
              case y4 => (intro w hSw; (try dsimp only at hSw); (try simp only [List.getElem_toArray, List.getElem_cons_zero, List.getElem_cons_succ]); go_simp; first | done | with_reducible rfl)
              (try simp only [Act.put, List.getElem_toArray, List.getElem_cons_zero, List.getElem_cons_succ, List.setIfInBounds_toArray, List.set_cons_zero, List.set_cons_succ])
              refine wpAnyH_take (i := 4) (v := ?v5) rfl (by kernel_rfl) (by kernel_rfl) (by kernel_rfl) (fun _ _ _ h => h) (Or.inl ⟨by rfl, ?y5⟩) (by assumption) ?r5
              case y5 => (intro w hSw; (try dsimp only at hSw); (try simp only [List.getElem_toArray, List.getElem_cons_zero, List.getElem_cons_succ]); go_simp; first | done | with_reducible rfl)
              (try simp only [Act.put, List.getElem_toArray, List.getElem_cons_zero, List.getElem_cons_succ, List.setIfInBounds_toArray, List.set_cons_zero, List.set_cons_succ])
              refine wpAnyH_take (i := 6) (v := ?v7) rfl (by kernel_rfl) (by kernel_rfl) (by kernel_rfl) (fun _ _ _ h => h) (Or.inl ⟨by rfl, ?y7⟩) (by assumption) ?r7
              case y7 => (intro w hSw; (try dsimp only at hSw); (try simp only [List.getElem_toArray, List.getElem_cons_zero, List.getElem_cons_succ]); go_simp; first | done | with_reducible rfl)
              (try simp only [Act.put, List.getElem_toArray, List.getElem_cons_zero, List.getElem_cons_succ, List.setIfInBounds_toArray, List.set_cons_zero, List.set_cons_succ])
              refine wpAnyH_take (i := 7) (v := ?v9) rfl (by kernel_rfl) (by kernel_rfl) (by kernel_rfl) (fun _ _ _ h => h) (Or.inl ⟨by rfl, ?y9⟩) (by assumption) ?r9
              case y9 => (intro w hSw; (try dsimp only at hSw); (try simp only [List.getElem_toArray, List.getElem_cons_zero, List.getElem_cons_succ]); go_simp; first | done | with_reducible rfl)
              (try simp only [Act.put, List.getElem_toArray, List.getElem_cons_zero, List.getElem_cons_succ, List.setIfInBounds_toArray, List.set_cons_zero, List.set_cons_succ])
              refine wpAnyH_take (i := 8) (v := ?v11) rfl (by kernel_rfl) (by kernel_rfl) (by kernel_rfl) (fun _ _ _ h => h) (Or.inl ⟨by rfl, ?y11⟩) (by assumption) ?r11
              case y11 => (intro w hSw; (try dsimp only at hSw); (try simp only [List.getElem_toArray, List.getElem_cons_zero, List.getElem_cons_succ]); go_simp; first | done | with_reducible rfl)
              (try simp only [Act.put, List.getElem_toArray, List.getElem_cons_zero, List.getElem_cons_succ, List.setIfInBounds_toArray, List.set_cons_zero, List.set_cons_succ])
              refine wpAnyH_take (i := 9) (v := ?v13) rfl (by kernel_rfl) (by kernel_rfl) (by kernel_rfl) (fun _ _ _ h => h) (Or.inl ⟨by rfl, ?y13⟩) (by assumption) ?r13
              case y13 => (intro w hSw; (try dsimp only at hSw); (try simp only [List.getElem_toArray, List.getElem_cons_zero, List.getElem_cons_succ]); go_simp; first | done | with_reducible rfl)
              (try simp only [Act.put, List.getElem_toArray, List.getElem_cons_zero, List.getElem_cons_succ, List.setIfInBounds_toArray, List.set_cons_zero, List.set_cons_succ])
              refine wpAnyH_take (i := 10) (v := ?v15) rfl (by kernel_rfl) (by kernel_rfl) (by kernel_rfl) (fun _ _ _ h => h) (Or.inl ⟨by rfl, ?y15⟩) (by assumption) ?r15
              case y15 => (intro w hSw; (try dsimp only at hSw); (try simp only [List.getElem_toArray, List.getElem_cons_zero, List.getElem_cons_succ]); go_simp; first | done | with_reducible rfl)
              (try simp only [Act.put, List.getElem_toArray, List.getElem_cons_zero, List.getElem_cons_succ, List.setIfInBounds_toArray, List.set_cons_zero, List.set_cons_succ])
              refine wpAnyH_take (i := 11) (v := ?v17) rfl (by kernel_rfl) (by kernel_rfl) (by kernel_rfl) (fun _ _ _ h => h) (Or.inl ⟨by rfl, ?y17⟩) (by assumption) ?r17
              case y17 => (intro w hSw; (try dsimp only at hSw); (try simp only [List.getElem_toArray, List.getElem_cons_zero, List.getElem_cons_succ]); go_simp; first | done | with_reducible rfl)
              (try simp only [Act.put, List.getElem_toArray, List.getElem_cons_zero, List.getElem_cons_succ, List.setIfInBounds_toArray, List.set_cons_zero, List.set_cons_succ])
              refine wpAnyH_take (i := 12) (v := ?v19) rfl (by kernel_rfl) (by kernel_rfl) (by kernel_rfl) (fun _ _ _ h => h) (Or.inl ⟨by rfl, ?y19⟩) (by assumption) ?r19
              case y19 => (intro w hSw; (try dsimp only at hSw); (try simp only [List.getElem_toArray, List.getElem_cons_zero, List.getElem_cons_succ]); go_simp; first | done | with_reducible rfl)
              (try simp only [Act.put, List.getElem_toArray, List.getElem_cons_zero, List.getElem_cons_succ, List.setIfInBounds_toArray, List.set_cons_zero, List.set_cons_succ])
              refine wpAnyH_take (i := 13) (v := ?v21) rfl (by kernel_rfl) (by kernel_rfl) (by kernel_rfl) (fun _ _ _ h => h) (Or.inl ⟨by rfl, ?y21⟩) (by assumption) ?r21
              case y21 => (intro w hSw; (try dsimp only at hSw); (try simp only [List.getElem_toArray, List.getElem_cons_zero, List.getElem_cons_succ]); go_simp; first | done | with_reducible rfl)
              (try simp only [Act.put, List.getElem_toArray, List.getElem_cons_zero, List.getElem_cons_succ, List.setIfInBounds_toArray, List.set_cons_zero, List.set_cons_succ])
              refine wpAnyH_take (i := 14) (v := ?v23) rfl (by kernel_rfl) (by kernel_rfl) (by kernel_rfl) (fun _ _ _ h => h) (Or.inl ⟨by rfl, ?y23⟩) (by assumption) ?r23
              case y23 => (intro w hSw; (try dsimp only at hSw); (try simp only [List.getElem_toArray, List.getElem_cons_zero, List.getElem_cons_succ]); go_simp; first | done | with_reducible rfl)
              (try simp only [Act.put, List.getElem_toArray, List.getElem_cons_zero, List.getElem_cons_succ, List.setIfInBounds_toArray, List.set_cons_zero, List.set_cons_succ])
              refine wpAnyH_take (i := 15) (v := ?v25) rfl (by kernel_rfl) (by kernel_rfl) (by kernel_rfl) (fun _ _ _ h => h) (Or.inl ⟨by rfl, ?y25⟩) (by assumption) ?r25
              case y25 => (intro w hSw; (try dsimp only at hSw); (try simp only [List.getElem_toArray, List.getElem_cons_zero, List.getElem_cons_succ]); go_simp; first | done | with_reducible rfl)
              (try simp only [Act.put, List.getElem_toArray, List.getElem_cons_zero, List.getElem_cons_succ, List.setIfInBounds_toArray, List.set_cons_zero, List.set_cons_succ])
              refine wpAnyH_ready (rs := [5]) (by kernel_rfl) (by simp) ?_
              refine AllReadyH.cons rfl (fun K hK => ?_) ?_
              · (try simp only [List.getElem_toArray, List.getElem_cons_zero, List.getElem_cons_succ])
                go_simp
                have hk := And.right ‹_ ∧ Kp wr _›
                refine (TA1.out _ hk).mono ?_
                rintro e v5 ⟨P1, p1, p2, P2, p3, p4, rfl, hk9, hj9, hW9, hX9, -, -, hbx⟩
                have hp := Kp.trans hk hbx
                have r5 : RQ v5 (sf2) P1 p1 p2 P2 p3 p4 := ⟨hk9, hj9, hW9, hX9⟩
                clear hk hbx hk9 hj9 hW9 hX9
                (try (go_wp2_with fail))
                refine hK.out _ _ ?k27 (fun hHeld27 => ?n27)
                case k27 => ((try dsimp only); first | (with_reducible refine HS16.out _ ?_; with_reducible assumption) | (with_reducible refine HS16.out _ (Kp.drew ?_); with_reducible assumption) | (with_reducible refine' HS16.out _ (Kp.drew (And.right ?_)); rotate_left; with_reducible assumption))
                clear hK K
                (try simp only [Act.put, List.getElem_toArray, List.getElem_cons_zero, List.getElem_cons_succ, List.setIfInBounds_toArray, List.set_cons_zero, List.set_cons_succ])
                refine wpAnyH_ready (rs := [16]) (by kernel_rfl) (by simp) ?_
                refine AllReadyH.cons rfl (fun K hK => ?_) ?_
                · (try simp only [List.getElem_toArray, List.getElem_cons_zero, List.getElem_cons_succ])
                  go_simp
                  have hk := And.right ‹_ ∧ Kp wr _›
                  refine (TFI.out _).mono ?_
                  rintro e v6 ⟨P3, p5, p6, P4, p7, p8, rfl, hk9, hj9, hW9, hX9, -, -, hbx⟩
                  have hp := Kp.trans hk hbx
                  have r6 : RQ v6 (fs) P3 p5 p6 P4 p7 p8 := ⟨hk9, hj9, hW9, hX9⟩
                  have r5 := RQ.below r5 hbx
                  clear hk hbx hk9 hj9 hW9 hX9
                  (try (go_wp2_with fail))
                  refine hK.out _ _ ?k29 (fun hHeld29 => ?n29)
                  case k29 => ((try dsimp only); first | (with_reducible refine HS16.out _ ?_; with_reducible assumption) | (with_reducible refine HS16.out _ (Kp.drew ?_); with_reducible assumption) | (with_reducible refine' HS16.out _ (Kp.drew (And.right ?_)); rotate_left; with_reducible assumption))
                  clear hK K
                  (try simp only [Act.put, List.getElem_toArray, List.getElem_cons_zero, List.getElem_cons_succ, List.setIfInBounds_toArray, List.set_cons_zero, List.set_cons_succ])
                  refine wpAnyH_ready (rs := [17]) (by kernel_rfl) (by simp) ?_
                  refine AllReadyH.cons rfl (fun K hK => ?_) ?_
                  · (try simp only [List.getElem_toArray, List.getElem_cons_zero, List.getElem_cons_succ])
                    go_simp
                    have hk := And.right ‹_ ∧ Kp wr _›
                    refine (TM.out _ hk _ _ _ _ _ _ r6).mono ?_
                    rintro e v7 ⟨P3, p5, p6, P4, p7, p8, rfl, hk9, hj9, hW9, hX9, -, -, hbx⟩
                    have hp := Kp.trans hk hbx
                    have r6 : RQ v7 (tm) P3 p5 p6 P4 p7 p8 := ⟨hk9, hj9, hW9, hX9⟩
                    have r5 := RQ.below r5 hbx
                    clear hk hbx hk9 hj9 hW9 hX9
                    (try (go_wp2_with fail))
                    refine hK.out _ _ ?k31 (fun hHeld31 => ?n31)
                    case k31 => ((try dsimp only); first | (with_reducible refine HS16.out _ ?_; with_reducible assumption) | (with_reducible refine HS16.out _ (Kp.drew ?_); with_reducible assumption) | (with_reducible refine' HS16.out _ (Kp.drew (And.right ?_)); rotate_left; with_reducible assumption))
                    clear hK K
                    (try simp only [Act.put, List.getElem_toArray, List.getElem_cons_zero, List.getElem_cons_succ, List.setIfInBounds_toArray, List.set_cons_zero, List.set_cons_succ])
                    refine wpAnyH_ready (rs := [18]) (by kernel_rfl) (by simp) ?_
                    refine AllReadyH.cons rfl (fun K hK => ?_) ?_
                    · (try simp only [List.getElem_toArray, List.getElem_cons_zero, List.getElem_cons_succ])
                      go_simp
                      have hk := And.right ‹_ ∧ Kp wr _›
                      refine (TA2.out _ hk _ _ _ _ _ _ r6).mono ?_
                      rintro e v8 ⟨P5, p9, p10, P6, p11, p12, rfl, hk9, hj9, hW9, hX9, -, -, hbx⟩
                      have hp := Kp.trans hk hbx
                      have r8 : RQ v8 (sh2) P5 p9 p10 P6 p11 p12 := ⟨hk9, hj9, hW9, hX9⟩
                      have r5 := RQ.below r5 hbx
                      clear hk hbx hk9 hj9 hW9 hX9
                      (try (go_wp2_with fail))
                      refine hK.out _ _ ?k33 (fun hHeld33 => ?n33)
                      case k33 => ((try dsimp only); first | (with_reducible refine HS16.out _ ?_; with_reducible assumption) | (with_reducible refine HS16.out _ (Kp.drew ?_); with_reducible assumption) | (with_reducible refine' HS16.out _ (Kp.drew (And.right ?_)); rotate_left; with_reducible assumption))
                      clear hK K
                      (try simp only [Act.put, List.getElem_toArray, List.getElem_cons_zero, List.getElem_cons_succ, List.setIfInBounds_toArray, List.set_cons_zero, List.set_cons_succ])
                      refine wpAnyH_done (by kernel_rfl) ?_ _
                      unfold Qfr
                      dsimp only
                      have b15 := Kp.blk hp HB15r.out
                      have b16 := Kp.blk hp HB16r.out
                      have hbl := Below.trans HBL.out (Below.mono hp HGL.out)
                      refine wpAny_ready (rs := [19]) (by kernel_rfl) (by simp) ?_
                      refine AllReady.cons rfl (fun K hK => ?_) AllReady.nil
                      (try simp only [List.getElem_toArray, List.getElem_cons_zero, List.getElem_cons_succ])
                      obtain ⟨_, _, _, _, f10, f11, f12, f13⟩ := b15.four
                      go_simp
                      refine hK _ _ ?_
                      clear hK K
                      (try simp only [Act.put, List.getElem_toArray, List.getElem_cons_zero, List.getElem_cons_succ, List.setIfInBounds_toArray, List.set_cons_zero, List.set_cons_succ])
                      generalize hv : World.setCell (World.setCell (World.setCell (World.setCell _ _ _) _ _) _ _) _ _ = v12
                      have c15 := q_blk hv b15
                      have c16 := q_far hv b16 (by omega)
                      have r5 := q_rq hv b15 r5
                      have r8 := q_rq hv b15 r8
                      have hbl := q_below hv hbl (Nat.le_refl _)
                      clear f10 f11 f12 f13 hv b15 b16 hp
                      refine wpAny_ready (rs := [20]) (by kernel_rfl) (by simp) ?_
                      refine AllReady.cons rfl (fun K hK => ?_) AllReady.nil
                      (try simp only [List.getElem_toArray, List.getElem_cons_zero, List.getElem_cons_succ])
                      obtain ⟨_, _, _, _, f10, f11, f12, f13⟩ := c16.four
                      go_simp
                      refine hK _ _ ?_
                      clear hK K
                      (try simp only [Act.put, List.getElem_toArray, List.getElem_cons_zero, List.getElem_cons_succ, List.setIfInBounds_toArray, List.set_cons_zero, List.set_cons_succ])
                      generalize hv : World.setCell (World.setCell (World.setCell (World.setCell _ _ _) _ _) _ _) _ _ = v13
                      have d16 := q_blk hv c16
                      have d15 := q_far hv c15 (by omega)
                      have r5 := q_rq hv c16 r5
                      have r8 := q_rq hv c16 r8
                      have hbl := q_below hv hbl (by omega)
                      refine wpAny_done (by kernel_rfl) ?_ _
                      have HF := Lib.hid (sm_next HSTF.out HSTH.out hbl d15 r5 d16 r8)
                      clear f10 f11 f12 f13 hv c15 c16 d15 d16 r5 r6 r8 hbl
                      go_wp2
                      go_roundw
                      case rel => exact ⟨i + 1, by omega, by first | rfl | (rw [HSTB.out]; rfl) | (rw [HSTB.out]; simp), by first | rfl | go_num, HF⟩
                      case measure => simp [intOf]; omega
                    exact AllReadyH.nil
                  exact AllReadyH.nil
                exact AllReadyH.nil
              exact AllReadyH.nil
            exact AllReadyH.nil
          exact AllReadyH.nil
        · go_wp2_with fail
          refine wp_region_held_drew (S := fun w' => (w'.cell? ⟨ga, i * 4, none⟩ = some (.bool (decide (ta.num < 0))) ∧ w'.cell? ⟨ga, i * 4 + 1, none⟩ = some (.slice A5 k5 c5) ∧ w'.cell? ⟨ga, i * 4 + 2, none⟩ = some (.bool false) ∧ w'.cell? ⟨ga, i * 4 + 3, none⟩ = some (.slice A6 k6 c6) ∧ w'.cell? ⟨b, o + i * 9, none⟩ = some (.int .i64 bus) ∧ w'.cell? ⟨b, o + i * 9 + 1, none⟩ = some (.int .i64 mn) ∧ w'.cell? ⟨b, o + i * 9 + 2, none⟩ = some (.slice A' n' c') ∧ w'.cell? ⟨b, o + i * 9 + 3, none⟩ = some (.int .i64 up) ∧ w'.cell? ⟨b, o + i * 9 + 4, none⟩ = some (.int .i64 dn) ∧ w'.cell? ⟨b, o + i * 9 + 5, none⟩ = some (.int .i64 start) ∧ w'.cell? ⟨b, o + i * 9 + 6, none⟩ = some (.int .i64 idle) ∧ w'.cell? ⟨b, o + i * 9 + 7, none⟩ = some (.int .i64 spin) ∧ w'.cell? ⟨b, o + i * 9 + 8, none⟩ = some (.int .i64 on) ∧ w'.cell? ⟨b', o' + i, none⟩ = some (.bool bk) ∧ w'.cell? ⟨b2, o2 + i * 4, none⟩ = some (.bool an) ∧ w'.cell? ⟨b2, o2 + i * 4 + 1, none⟩ = some (.slice aA ak ac) ∧ w'.cell? ⟨b2, o2 + i * 4 + 2, none⟩ = some (.bool an') ∧ w'.cell? ⟨b2, o2 + i * 4 + 3, none⟩ = some (.slice aA' ak' ac')) ∧ Kp wr w') (by kernel_rfl) (HS.out _ (Kp.drew hk0)) (fun hHeld => ?_)
          refine wpAnyH_take (i := 0) (v := ?v88) rfl (by kernel_rfl) (by kernel_rfl) (by kernel_rfl) (fun _ _ _ h => h) (Or.inl ⟨by rfl, ?y88⟩) (by assumption) ?r88
          case y88 => (intro w hSw; (try dsimp only at hSw); (try simp only [List.getElem_toArray, List.getElem_cons_zero, List.getElem_cons_succ]); go_simp; first | done | with_reducible rfl)
          (try simp only [Act.put, List.getElem_toArray, List.getElem_cons_zero, List.getElem_cons_succ, List.setIfInBounds_toArray, List.set_cons_zero, List.set_cons_succ])
          refine wpAnyH_take (i := 1) (v := ?v89) rfl (by kernel_rfl) (by kernel_rfl) (by kernel_rfl) (fun _ _ _ h => h) (Or.inl ⟨by rfl, ?y89⟩) (by assumption) ?r89
          case y89 => (intro w hSw; (try dsimp only at hSw); (try simp only [List.getElem_toArray, List.getElem_cons_zero, List.getElem_cons_succ]); go_simp; first | done | with_reducible rfl)
          (try simp only [Act.put, List.getElem_toArray, List.getElem_cons_zero, List.getElem_cons_succ, List.setIfInBounds_toArray, List.set_cons_zero, List.set_cons_succ])
          refine wpAnyH_take (i := 2) (v := ?v90) rfl (by kernel_rfl) (by kernel_rfl) (by kernel_rfl) (fun _ _ _ h => h) (Or.inl ⟨by rfl, ?y90⟩) (by assumption) ?r90
          case y90 => (intro w hSw; (try dsimp only at hSw); (try simp only [List.getElem_toArray, List.getElem_cons_zero, List.getElem_cons_succ]); go_simp; first | done | with_reducible rfl)
          (try simp only [Act.put, List.getElem_toArray, List.getElem_cons_zero, List.getElem_cons_succ, List.setIfInBounds_toArray, List.set_cons_zero, List.set_cons_succ])
          refine wpAnyH_take (i := 3) (v := ?v91) rfl (by kernel_rfl) (by kernel_rfl) (by kernel_rfl) (fun _ _ _ h => h) (Or.inl ⟨by rfl, ?y91⟩) (by assumption) ?r91
          case y91 => (intro w hSw; (try dsimp only at hSw); (try simp only [List.getElem_toArray, List.getElem_cons_zero, List.getElem_cons_succ]); go_simp; first | done | with_reducible rfl)
          (try simp only [Act.put, List.getElem_toArray, List.getElem_cons_zero, List.getElem_cons_succ, List.setIfInBounds_toArray, List.set_cons_zero, List.set_cons_succ])
          refine wpAnyH_take (i := 4) (v := ?v92) rfl (by kernel_rfl) (by kernel_rfl) (by kernel_rfl) (fun _ _ _ h => h) (Or.inl ⟨by rfl, ?y92⟩) (by assumption) ?r92
          case y92 => (intro w hSw; (try dsimp only at hSw); (try simp only [List.getElem_toArray, List.getElem_cons_zero, List.getElem_cons_succ]); go_simp; first | done | with_reducible rfl)
          (try simp only [Act.put, List.getElem_toArray, List.getElem_cons_zero, List.getElem_cons_succ, List.setIfInBounds_toArray, List.set_cons_zero, List.set_cons_succ])
          refine wpAnyH_take (i := 5) (v := ?v93) rfl (by kernel_rfl) (by kernel_rfl) (by kernel_rfl) (fun _ _ _ h => h) (Or.inl ⟨by rfl, ?y93⟩) (by assumption) ?r93
          case y93 => (intro w hSw; (try dsimp only at hSw); (try simp only [List.getElem_toArray, List.getElem_cons_zero, List.getElem_cons_succ]); go_simp; first | done | with_reducible rfl)
          (try simp only [Act.put, List.getElem_toArray, List.getElem_cons_zero, List.getElem_cons_succ, List.setIfInBounds_toArray, List.set_cons_zero, List.set_cons_succ])
          refine wpAnyH_take (i := 6) (v := ?v94) rfl (by kernel_rfl) (by kernel_rfl) (by kernel_rfl) (fun _ _ _ h => h) (Or.inl ⟨by rfl, ?y94⟩) (by assumption) ?r94
          case y94 => (intro w hSw; (try dsimp only at hSw); (try simp only [List.getElem_toArray, List.getElem_cons_zero, List.getElem_cons_succ]); go_simp; first | done | with_reducible rfl)
          (try simp only [Act.put, List.getElem_toArray, List.getElem_cons_zero, List.getElem_cons_succ, List.setIfInBounds_toArray, List.set_cons_zero, List.set_cons_succ])
          refine wpAnyH_take (i := 7) (v := ?v95) rfl (by kernel_rfl) (by kernel_rfl) (by kernel_rfl) (fun _ _ _ h => h) (Or.inl ⟨by rfl, ?y95⟩) (by assumption) ?r95
          case y95 => (intro w hSw; (try dsimp only at hSw); (try simp only [List.getElem_toArray, List.getElem_cons_zero, List.getElem_cons_succ]); go_simp; first | done | with_reducible rfl)
          (try simp only [Act.put, List.getElem_toArray, List.getElem_cons_zero, List.getElem_cons_succ, List.setIfInBounds_toArray, List.set_cons_zero, List.set_cons_succ])
          refine wpAnyH_take (i := 8) (v := ?v96) rfl (by kernel_rfl) (by kernel_rfl) (by kernel_rfl) (fun _ _ _ h => h) (Or.inl ⟨by rfl, ?y96⟩) (by assumption) ?r96
          case y96 => (intro w hSw; (try dsimp only at hSw); (try simp only [List.getElem_toArray, List.getElem_cons_zero, List.getElem_cons_succ]); go_simp; first | done | with_reducible rfl)
          (try simp only [Act.put, List.getElem_toArray, List.getElem_cons_zero, List.getElem_cons_succ, List.setIfInBounds_toArray, List.set_cons_zero, List.set_cons_succ])
          refine wpAnyH_take (i := 9) (v := ?v97) rfl (by kernel_rfl) (by kernel_rfl) (by kernel_rfl) (fun _ _ _ h => h) (Or.inl ⟨by rfl, ?y97⟩) (by assumption) ?r97
          case y97 => (intro w hSw; (try dsimp only at hSw); (try simp only [List.getElem_toArray, List.getElem_cons_zero, List.getElem_cons_succ]); go_simp; first | done | with_reducible rfl)
          (try simp only [Act.put, List.getElem_toArray, List.getElem_cons_zero, List.getElem_cons_succ, List.setIfInBounds_toArray, List.set_cons_zero, List.set_cons_succ])
          refine wpAnyH_take (i := 10) (v := ?v98) rfl (by kernel_rfl) (by kernel_rfl) (by kernel_rfl) (fun _ _ _ h => h) (Or.inl ⟨by rfl, ?y98⟩) (by assumption) ?r98
          case y98 => (intro w hSw; (try dsimp only at hSw); (try simp only [List.getElem_toArray, List.getElem_cons_zero, List.getElem_cons_succ]); go_simp; first | done | with_reducible rfl)
          (try simp only [Act.put, List.getElem_toArray, List.getElem_cons_zero, List.getElem_cons_succ, List.setIfInBounds_toArray, List.set_cons_zero, List.set_cons_succ])
          refine wpAnyH_take (i := 11) (v := ?v99) rfl (by kernel_rfl) (by kernel_rfl) (by kernel_rfl) (fun _ _ _ h => h) (Or.inl ⟨by rfl, ?y99⟩) (by assumption) ?r99
          case y99 => (intro w hSw; (try dsimp only at hSw); (try simp only [List.getElem_toArray, List.getElem_cons_zero, List.getElem_cons_succ]); go_simp; first | done | with_reducible rfl)
          (try simp only [Act.put, List.getElem_toArray, List.getElem_cons_zero, List.getElem_cons_succ, List.setIfInBounds_toArray, List.set_cons_zero, List.set_cons_succ])
          refine wpAnyH_take (i := 12) (v := ?v100) rfl (by kernel_rfl) (by kernel_rfl) (by kernel_rfl) (fun _ _ _ h => h) (Or.inl ⟨by rfl, ?y100⟩) (by assumption) ?r100
          case y100 => (intro w hSw; (try dsimp only at hSw); (try simp only [List.getElem_toArray, List.getElem_cons_zero, List.getElem_cons_succ]); go_simp; first | done | with_reducible rfl)
          (try simp only [Act.put, List.getElem_toArray, List.getElem_cons_zero, List.getElem_cons_succ, List.setIfInBounds_toArray, List.set_cons_zero, List.set_cons_succ])
          refine wpAnyH_take (i := 13) (v := ?v101) rfl (by kernel_rfl) (by kernel_rfl) (by kernel_rfl) (fun _ _ _ h => h) (Or.inl ⟨by rfl, ?y101⟩) (by assumption) ?r101
          case y101 => (intro w hSw; (try dsimp only at hSw); (try simp only [List.getElem_toArray, List.getElem_cons_zero, List.getElem_cons_succ]); go_simp; first | done | with_reducible rfl)
          (try simp only [Act.put, List.getElem_toArray, List.getElem_cons_zero, List.getElem_cons_succ, List.setIfInBounds_toArray, List.set_cons_zero, List.set_cons_succ])
          refine wpAnyH_take (i := 14) (v := ?v102) rfl (by kernel_rfl) (by kernel_rfl) (by kernel_rfl) (fun _ _ _ h => h) (Or.inl ⟨by rfl, ?y102⟩) (by assumption) ?r102
          case y102 => (intro w hSw; (try dsimp only at hSw); (try simp only [List.getElem_toArray, List.getElem_cons_zero, List.getElem_cons_succ]); go_simp; first | done | with_reducible rfl)
          (try simp only [Act.put, List.getElem_toArray, List.getElem_cons_zero, List.getElem_cons_succ, List.setIfInBounds_toArray, List.set_cons_zero, List.set_cons_succ])
          refine wpAnyH_take (i := 15) (v := ?v103) rfl (by kernel_rfl) (by kernel_rfl) (by kernel_rfl) (fun _ _ _ h => h) (Or.inl ⟨by rfl, ?y103⟩) (by assumption) ?r103
          case y103 => (intro w hSw; (try dsimp only at hSw); (try simp only [List.getElem_toArray, List.getElem_cons_zero, List.getElem_cons_succ]); go_simp; first | done | with_reducible rfl)
          (try simp only [Act.put, List.getElem_toArray, List.getElem_cons_zero, List.getElem_cons_succ, List.setIfInBounds_toArray, List.set_cons_zero, List.set_cons_succ])
          refine wpAnyH_ready (rs := [16]) (by kernel_rfl) (by simp) ?_
          refine AllReadyH.cons rfl (fun K hK => ?_) ?_
          · (try simp only [List.getElem_toArray, List.getElem_cons_zero, List.getElem_cons_succ])
            go_simp
            have hk := And.right ‹_ ∧ Kp wr _›
            refine (TR.out _ hk).mono ?_
            rintro e v2 ⟨A9, k9, c9, B9, j9, e9, rfl, hk9, hj9, hW9, hX9, -, -, hbx⟩
            have hp := Kp.trans hk hbx
            have r9 : RQ v2 (rv) A9 k9 c9 B9 j9 e9 := ⟨hk9, hj9, hW9, hX9⟩
            clear hk hbx hk9 hj9 hW9 hX9
            (try (go_wp2_with fail))
            refine hK.out _ _ ?k105 (fun hHeld105 => ?n105)
            case k105 => ((try dsimp only); first | (with_reducible refine HS.out _ ?_; with_reducible assumption) | (with_reducible refine HS.out _ (Kp.drew ?_); with_reducible assumption) | (with_reducible refine' HS.out _ (Kp.drew (And.right ?_)); rotate_left; with_reducible assumption))
            clear hK K
            (try simp only [Act.put, List.getElem_toArray, List.getElem_cons_zero, List.getElem_cons_succ, List.setIfInBounds_toArray, List.set_cons_zero, List.set_cons_succ])
            refine wpAnyH_ready (rs := [17]) (by kernel_rfl) (by simp) ?_
            refine AllReadyH.cons rfl (fun K hK => ?_) ?_
            · (try simp only [List.getElem_toArray, List.getElem_cons_zero, List.getElem_cons_succ])
              go_simp
              have hk := And.right ‹_ ∧ Kp wr _›
              refine (TC.out _ hk _ _ _ _ _ _ r9).mono ?_
              rintro e v3 ⟨rfl, hbx⟩
              have hp := Kp.trans hk hbx
              clear hk hbx r9
              (try (go_wp2_with fail))
              refine hK.out _ _ ?k107 (fun hHeld107 => ?n107)
              case k107 => ((try dsimp only); first | (with_reducible refine HS.out _ ?_; with_reducible assumption) | (with_reducible refine HS.out _ (Kp.drew ?_); with_reducible assumption) | (with_reducible refine' HS.out _ (Kp.drew (And.right ?_)); rotate_left; with_reducible assumption))
              clear hK K
              (try simp only [Act.put, List.getElem_toArray, List.getElem_cons_zero, List.getElem_cons_succ, List.setIfInBounds_toArray, List.set_cons_zero, List.set_cons_succ])
              refine wpAnyH_take (i := 18) (v := ?v108) rfl (by kernel_rfl) (by kernel_rfl) (by kernel_rfl) (fun _ _ _ h => h) (Or.inl ⟨by rfl, ?y108⟩) (by assumption) ?r108
              case y108 => (intro w hSw; (try dsimp only at hSw); (try simp only [List.getElem_toArray, List.getElem_cons_zero, List.getElem_cons_succ]); go_simp; first | done | with_reducible rfl)
              (try simp only [Act.put, List.getElem_toArray, List.getElem_cons_zero, List.getElem_cons_succ, List.setIfInBounds_toArray, List.set_cons_zero, List.set_cons_succ])
              refine wpAnyH_done (by kernel_rfl) ?_ _
              have hk6 := hp
              obtain ⟨x0', x1', x2', x3'⟩ := HTK.out _ hp
              clear hp
              (try go_wp2_with fail)
              refine (TS0.out _ hk6).mono ?_
              rintro e v4 ⟨rfl, hbx⟩
              have hk6 := Kp.trans hk6 hbx
              clear hbx x0' x1' x2' x3' TS0 TR TC
              (try go_wp2_with fail)
              have HS16 := Lib.hid (show ∀ w', Kp wr w' → (w'.cell? ⟨gs, 0, none⟩ = some (.bool (decide (sf.num < 0))) ∧ w'.cell? ⟨gs, 1, none⟩ = some (.slice AS ks cs) ∧ w'.cell? ⟨gs, 2, none⟩ = some (.bool false) ∧ w'.cell? ⟨gs, 3, none⟩ = some (.slice BS js ds) ∧ w'.cell? ⟨gs + 1, 0, none⟩ = some (.bool (decide (sh.num < 0))) ∧ w'.cell? ⟨gs + 1, 1, none⟩ = some (.slice AC kc cc) ∧ w'.cell? ⟨gs + 1, 2, none⟩ = some (.bool false) ∧ w'.cell? ⟨gs + 1, 3, none⟩ = some (.slice BC jc dc) ∧ w'.cell? ⟨ga, i * 4, none⟩ = some (.bool (decide (ta.num < 0))) ∧ w'.cell? ⟨ga, i * 4 + 1, none⟩ = some (.slice A5 k5 c5) ∧ w'.cell? ⟨ga, i * 4 + 2, none⟩ = some (.bool false) ∧ w'.cell? ⟨ga, i * 4 + 3, none⟩ = some (.slice A6 k6 c6) ∧ w'.cell? ⟨b, o + i * 9 + 7, none⟩ = some (.int .i64 spin)) ∧ Kp wr w' from fun w' hk => ⟨⟨(Below.cell hk (p := ⟨gs, _, none⟩) ult).trans u0, (Below.cell hk (p := ⟨gs, _, none⟩) ult).trans u1, (Below.cell hk (p := ⟨gs, _, none⟩) ult).trans u2, (Below.cell hk (p := ⟨gs, _, none⟩) ult).trans u3, (Below.cell hk (p := ⟨gs + 1, _, none⟩) ylt).trans y0, (Below.cell hk (p := ⟨gs + 1, _, none⟩) ylt).trans y1, (Below.cell hk (p := ⟨gs + 1, _, none⟩) ylt).trans y2, (Below.cell hk (p := ⟨gs + 1, _, none⟩) ylt).trans y3, (Below.cell hk (p := ⟨ga, _, none⟩) hga).trans x0, (Below.cell hk (p := ⟨ga, _, none⟩) hga).trans x1, (Below.cell hk (p := ⟨ga, _, none⟩) hga).trans x2, (Below.cell hk (p := ⟨ga, _, none⟩) hga).trans x3, (Below.cell hk (p := ⟨b, _, none⟩) hbr).trans f8⟩, hk⟩)
              refine wp_region_front 19 2 _ (fun w' => (w'.cell? ⟨gs, 0, none⟩ = some (.bool (decide (sf.num < 0))) ∧ w'.cell? ⟨gs, 1, none⟩ = some (.slice AS ks cs) ∧ w'.cell? ⟨gs, 2, none⟩ = some (.bool false) ∧ w'.cell? ⟨gs, 3, none⟩ = some (.slice BS js ds) ∧ w'.cell? ⟨gs + 1, 0, none⟩ = some (.bool (decide (sh.num < 0))) ∧ w'.cell? ⟨gs + 1, 1, none⟩ = some (.slice AC kc cc) ∧ w'.cell? ⟨gs + 1, 2, none⟩ = some (.bool false) ∧ w'.cell? ⟨gs + 1, 3, none⟩ = some (.slice BC jc dc) ∧ w'.cell? ⟨ga, i * 4, none⟩ = some (.bool (decide (ta.num < 0))) ∧ w'.cell? ⟨ga, i * 4 + 1, none⟩ = some (.slice A5 k5 c5) ∧ w'.cell? ⟨ga, i * 4 + 2, none⟩ = some (.bool false) ∧ w'.cell? ⟨ga, i * 4 + 3, none⟩ = some (.slice A6 k6 c6) ∧ w'.cell? ⟨b, o + i * 9 + 7, none⟩ = some (.int .i64 spin)) ∧ Kp wr w') (by kernel_rfl) (by kernel_rfl) rfl (HS16.out _ (Kp.drew hk6)) (fun hHeld => ?_)
              simp only [List.toList_toArray, List.take_succ_cons, List.take_zero]
              refine wpAnyH_take (i := 0) (v := ?v55) rfl (by kernel_rfl) (by kernel_rfl) (by kernel_rfl) (fun _ _ _ h => h) (Or.inl ⟨by rfl, ?y55⟩) (by assumption) ?r55
              case y55 => (intro w hSw; (try dsimp only at hSw); (try simp only [List.getElem_toArray, List.getElem_cons_zero, List.getElem_cons_succ]); go_simp; first | done | with_reducible rfl)
              (try simp only [Act.put, List.getElem_toArray, List.getElem_cons_zero, List.getElem_cons_succ, List.setIfInBounds_toArray, List.set_cons_zero, List.set_cons_succ])
              refine wpAnyH_take (i := 1) (v := ?v56) rfl (by kernel_rfl) (by kernel_rfl) (by kernel_rfl) (fun _ _ _ h => h) (Or.inl ⟨by rfl, ?y56⟩) (by assumption) ?r56
              case y56 => (intro w hSw; (try dsimp only at hSw); (try simp only [List.getElem_toArray, List.getElem_cons_zero, List.getElem_cons_succ]); go_simp; first | done | with_reducible rfl)
              (try simp only [Act.put, List.getElem_toArray, List.getElem_cons_zero, List.getElem_cons_succ, List.setIfInBounds_toArray, List.set_cons_zero, List.set_cons_succ])
              refine wpAnyH_take (i := 2) (v := ?v57) rfl (by kernel_rfl) (by kernel_rfl) (by kernel_rfl) (fun _ _ _ h => h) (Or.inl ⟨by rfl, ?y57⟩) (by assumption) ?r57
              case y57 => (intro w hSw; (try dsimp only at hSw); (try simp only [List.getElem_toArray, List.getElem_cons_zero, List.getElem_cons_succ]); go_simp; first | done | with_reducible rfl)
              (try simp only [Act.put, List.getElem_toArray, List.getElem_cons_zero, List.getElem_cons_succ, List.setIfInBounds_toArray, List.set_cons_zero, List.set_cons_succ])
              refine wpAnyH_take (i := 3) (v := ?v58) rfl (by kernel_rfl) (by kernel_rfl) (by kernel_rfl) (fun _ _ _ h => h) (Or.inl ⟨by rfl, ?y58⟩) (by assumption) ?r58
              case y58 => (intro w hSw; (try dsimp only at hSw); (try simp only [List.getElem_toArray, List.getElem_cons_zero, List.getElem_cons_succ]); go_simp; first | done | with_reducible rfl)
              (try simp only [Act.put, List.getElem_toArray, List.getElem_cons_zero, List.getElem_cons_succ, List.setIfInBounds_toArray, List.set_cons_zero, List.set_cons_succ])
              refine wpAnyH_take (i := 4) (v := ?v59) rfl (by kernel_rfl) (by kernel_rfl) (by kernel_rfl) (fun _ _ _ h => h) (Or.inl ⟨by rfl, ?y59⟩) (by assumption) ?r59
              case y59 => (intro w hSw; (try dsimp only at hSw); (try simp only [List.getElem_toArray, List.getElem_cons_zero, List.getElem_cons_succ]); go_simp; first | done | with_reducible rfl)
              (try simp only [Act.put, List.getElem_toArray, List.getElem_cons_zero, List.getElem_cons_succ, List.setIfInBounds_toArray, List.set_cons_zero, List.set_cons_succ])
              refine wpAnyH_take (i := 6) (v := ?v61) rfl (by kernel_rfl) (by kernel_rfl) (by kernel_rfl) (fun _ _ _ h => h) (Or.inl ⟨by rfl, ?y61⟩) (by assumption) ?r61
              case y61 => (intro w hSw; (try dsimp only at hSw); (try simp only [List.getElem_toArray, List.getElem_cons_zero, List.getElem_cons_succ]); go_simp; first | done | with_reducible rfl)
              (try simp only [Act.put, List.getElem_toArray, List.getElem_cons_zero, List.getElem_cons_succ, List.setIfInBounds_toArray, List.set_cons_zero, List.set_cons_succ])
              refine wpAnyH_take (i := 7) (v := ?v63) rfl (by kernel_rfl) (by kernel_rfl) (by kernel_rfl) (fun _ _ _ h => h) (Or.inl ⟨by rfl, ?y63⟩) (by assumption) ?r63
              case y63 => (intro w hSw; (try dsimp only at hSw); (try simp only [List.getElem_toArray, List.getElem_cons_zero, List.getElem_cons_succ]); go_simp; first | done | with_reducible rfl)
              (try simp only [Act.put, List.getElem_toArray, List.getElem_cons_zero, List.getElem_cons_succ, List.setIfInBounds_toArray, List.set_cons_zero, List.set_cons_succ])
              refine wpAnyH_take (i := 8) (v := ?v65) rfl (by kernel_rfl) (by kernel_rfl) (by kernel_rfl) (fun _ _ _ h => h) (Or.inl ⟨by rfl, ?y65⟩) (by assumption) ?r65
              case y65 => (intro w hSw; (try dsimp only at hSw); (try simp only [List.getElem_toArray, List.getElem_cons_zero, List.getElem_cons_succ]); go_simp; first | done | with_reducible rfl)
              (try simp only [Act.put, List.getElem_toArray, List.getElem_cons_zero, List.getElem_cons_succ, List.setIfInBounds_toArray, List.set_cons_zero, List.set_cons_succ])
              refine wpAnyH_take (i := 9) (v := ?v67) rfl (by kernel_rfl) (by kernel_rfl) (by kernel_rfl) (fun _ _ _ h => h) (Or.inl ⟨by rfl, ?y67⟩) (by assumption) ?r67
              case y67 => (intro w hSw; (try dsimp only at hSw); (try simp only [List.getElem_toArray, List.getElem_cons_zero, List.getElem_cons_succ]); go_simp; first | done | with_reducible rfl)
              (try simp only [Act.put, List.getElem_toArray, List.getElem_cons_zero, List.getElem_cons_succ, List.setIfInBounds_toArray, List.set_cons_zero, List.set_cons_succ])
              refine wpAnyH_take (i := 10) (v := ?v69) rfl (by kernel_rfl) (by kernel_rfl) (by kernel_rfl) (fun _ _ _ h => h) (Or.inl ⟨by rfl, ?y69⟩) (by assumption) ?r69
              case y69 => (intro w hSw; (try dsimp only at hSw); (try simp only [List.getElem_toArray, List.getElem_cons_zero, List.getElem_cons_succ]); go_simp; first | done | with_reducible rfl)
              (try simp only [Act.put, List.getElem_toArray, List.getElem_cons_zero, List.getElem_cons_succ, List.setIfInBounds_toArray, List.set_cons_zero, List.set_cons_succ])
              refine wpAnyH_take (i := 11) (v := ?v71) rfl (by kernel_rfl) (by kernel_rfl) (by kernel_rfl) (fun _ _ _ h => h) (Or.inl ⟨by rfl, ?y71⟩) (by assumption) ?r71
              case y71 => (intro w hSw; (try dsimp only at hSw); (try simp only [List.getElem_toArray, List.getElem_cons_zero, List.getElem_cons_succ]); go_simp; first | done | with_reducible rfl)
              (try simp only [Act.put, List.getElem_toArray, List.getElem_cons_zero, List.getElem_cons_succ, List.setIfInBounds_toArray, List.set_cons_zero, List.set_cons_succ])
              refine wpAnyH_take (i := 12) (v := ?v73) rfl (by kernel_rfl) (by kernel_rfl) (by kernel_rfl) (fun _ _ _ h => h) (Or.inl ⟨by rfl, ?y73⟩) (by assumption) ?r73
              case y73 => (intro w hSw; (try dsimp only at hSw); (try simp only [List.getElem_toArray, List.getElem_cons_zero, List.getElem_cons_succ]); go_simp; first | done | with_reducible rfl)
              (try simp only [Act.put, List.getElem_toArray, List.getElem_cons_zero, List.getElem_cons_succ, List.setIfInBounds_toArray, List.set_cons_zero, List.set_cons_succ])
              refine wpAnyH_take (i := 13) (v := ?v75) rfl (by kernel_rfl) (by kernel_rfl) (by kernel_rfl) (fun _ _ _ h => h) (Or.inl ⟨by rfl, ?y75⟩) (by assumption) ?r75
              case y75 => (intro w hSw; (try dsimp only at hSw); (try simp only [List.getElem_toArray, List.getElem_cons_zero, List.getElem_cons_succ]); go_simp; first | done | with_reducible rfl)
              (try simp only [Act.put, List.getElem_toArray, List.getElem_cons_zero, List.getElem_cons_succ, List.setIfInBounds_toArray, List.set_cons_zero, List.set_cons_succ])
              refine wpAnyH_take (i := 14) (v := ?v77) rfl (by kernel_rfl) (by kernel_rfl) (by kernel_rfl) (fun _ _ _ h => h) (Or.inl ⟨by rfl, ?y77⟩) (by assumption) ?r77
              case y77 => (intro w hSw; (try dsimp only at hSw); (try simp only [List.getElem_toArray, List.getElem_cons_zero, List.getElem_cons_succ]); go_simp; first | done | with_reducible rfl)
              (try simp only [Act.put, List.getElem_toArray, List.getElem_cons_zero, List.getElem_cons_succ, List.setIfInBounds_toArray, List.set_cons_zero, List.set_cons_succ])
              refine wpAnyH_take (i := 15) (v := ?v79) rfl (by kernel_rfl) (by kernel_rfl) (by kernel_rfl) (fun _ _ _ h => h) (Or.inl ⟨by rfl, ?y79⟩) (by assumption) ?r79
              case y79 => (intro w hSw; (try dsimp only at hSw); (try simp only [List.getElem_toArray, List.getElem_cons_zero, List.getElem_cons_succ]); go_simp; first | done | with_reducible rfl)
              (try simp only [Act.put, List.getElem_toArray, List.getElem_cons_zero, List.getElem_cons_succ, List.setIfInBounds_toArray, List.set_cons_zero, List.set_cons_succ])
              refine wpAnyH_ready (rs := [5]) (by kernel_rfl) (by simp) ?_
              refine AllReadyH.cons rfl (fun K hK => ?_) ?_
              · (try simp only [List.getElem_toArray, List.getElem_cons_zero, List.getElem_cons_succ])
                go_simp
                have hk := And.right ‹_ ∧ Kp wr _›
                refine (TA1.out _ hk).mono ?_
                rintro e v5 ⟨P1, p1, p2, P2, p3, p4, rfl, hk9, hj9, hW9, hX9, -, -, hbx⟩
                have hp := Kp.trans hk hbx
                have r5 : RQ v5 (sf2) P1 p1 p2 P2 p3 p4 := ⟨hk9, hj9, hW9, hX9⟩
                clear hk hbx hk9 hj9 hW9 hX9
                (try (go_wp2_with fail))
                refine hK.out _ _ ?k81 (fun hHeld81 => ?n81)
                case k81 => ((try dsimp only); first | (with_reducible refine HS16.out _ ?_; with_reducible assumption) | (with_reducible refine HS16.out _ (Kp.drew ?_); with_reducible assumption) | (with_reducible refine' HS16.out _ (Kp.drew (And.right ?_)); rotate_left; with_reducible assumption))
                clear hK K
                (try simp only [Act.put, List.getElem_toArray, List.getElem_cons_zero, List.getElem_cons_succ, List.setIfInBounds_toArray, List.set_cons_zero, List.set_cons_succ])
                refine wpAnyH_ready (rs := [16]) (by kernel_rfl) (by simp) ?_
                refine AllReadyH.cons rfl (fun K hK => ?_) ?_
                · (try simp only [List.getElem_toArray, List.getElem_cons_zero, List.getElem_cons_succ])
                  go_simp
                  have hk := And.right ‹_ ∧ Kp wr _›
                  refine (TFI.out _).mono ?_
                  rintro e v6 ⟨P3, p5, p6, P4, p7, p8, rfl, hk9, hj9, hW9, hX9, -, -, hbx⟩
                  have hp := Kp.trans hk hbx
                  have r6 : RQ v6 (fs) P3 p5 p6 P4 p7 p8 := ⟨hk9, hj9, hW9, hX9⟩
                  have r5 := RQ.below r5 hbx
                  clear hk hbx hk9 hj9 hW9 hX9
                  (try (go_wp2_with fail))
                  refine hK.out _ _ ?k83 (fun hHeld83 => ?n83)
                  case k83 => ((try dsimp only); first | (with_reducible refine HS16.out _ ?_; with_reducible assumption) | (with_reducible refine HS16.out _ (Kp.drew ?_); with_reducible assumption) | (with_reducible refine' HS16.out _ (Kp.drew (And.right ?_)); rotate_left; with_reducible assumption))
                  clear hK K
                  (try simp only [Act.put, List.getElem_toArray, List.getElem_cons_zero, List.getElem_cons_succ, List.setIfInBounds_toArray, List.set_cons_zero, List.set_cons_succ])
                  refine wpAnyH_ready (rs := [17]) (by kernel_rfl) (by simp) ?_
                  refine AllReadyH.cons rfl (fun K hK => ?_) ?_
                  · (try simp only [List.getElem_toArray, List.getElem_cons_zero, List.getElem_cons_succ])
                    go_simp
                    have hk := And.right ‹_ ∧ Kp wr _›
                    refine (TM.out _ hk _ _ _ _ _ _ r6).mono ?_
                    rintro e v7 ⟨P3, p5, p6, P4, p7, p8, rfl, hk9, hj9, hW9, hX9, -, -, hbx⟩
                    have hp := Kp.trans hk hbx
                    have r6 : RQ v7 (tm) P3 p5 p6 P4 p7 p8 := ⟨hk9, hj9, hW9, hX9⟩
                    have r5 := RQ.below r5 hbx
                    clear hk hbx hk9 hj9 hW9 hX9
                    (try (go_wp2_with fail))
                    refine hK.out _ _ ?k85 (fun hHeld85 => ?n85)
                    case k85 => ((try dsimp only); first | (with_reducible refine HS16.out _ ?_; with_reducible assumption) | (with_reducible refine HS16.out _ (Kp.drew ?_); with_reducible assumption) | (with_reducible refine' HS16.out _ (Kp.drew (And.right ?_)); rotate_left; with_reducible assumption))
                    clear hK K
                    (try simp only [Act.put, List.getElem_toArray, List.getElem_cons_zero, List.getElem_cons_succ, List.setIfInBounds_toArray, List.set_cons_zero, List.set_cons_succ])
                    refine wpAnyH_ready (rs := [18]) (by kernel_rfl) (by simp) ?_
                    refine AllReadyH.cons rfl (fun K hK => ?_) ?_
                    · (try simp only [List.getElem_toArray, List.getElem_cons_zero, List.getElem_cons_succ])
                      go_simp
                      have hk := And.right ‹_ ∧ Kp wr _›
                      refine (TA2.out _ hk _ _ _ _ _ _ r6).mono ?_
                      rintro e v8 ⟨P5, p9, p10, P6, p11, p12, rfl, hk9, hj9, hW9, hX9, -, -, hbx⟩
                      have hp := Kp.trans hk hbx
                      have r8 : RQ v8 (sh2) P5 p9 p10 P6 p11 p12 := ⟨hk9, hj9, hW9, hX9⟩
                      have r5 := RQ.below r5 hbx
                      clear hk hbx hk9 hj9 hW9 hX9
                      (try (go_wp2_with fail))
                      refine hK.out _ _ ?k87 (fun hHeld87 => ?n87)
                      case k87 => ((try dsimp only); first | (with_reducible refine HS16.out _ ?_; with_reducible assumption) | (with_reducible refine HS16.out _ (Kp.drew ?_); with_reducible assumption) | (with_reducible refine' HS16.out _ (Kp.drew (And.right ?_)); rotate_left; with_reducible assumption))
                      clear hK K
                      (try simp only [Act.put, List.getElem_toArray, List.getElem_cons_zero, List.getElem_cons_succ, List.setIfInBounds_toArray, List.set_cons_zero, List.set_cons_succ])
                      refine wpAnyH_done (by kernel_rfl) ?_ _
                      unfold Qfr
                      dsimp only
                      have b15 := Kp.blk hp HB15r.out
                      have b16 := Kp.blk hp HB16r.out
                      have hbl := Below.trans HBL.out (Below.mono hp HGL.out)
                      refine wpAny_ready (rs := [19]) (by kernel_rfl) (by simp) ?_
                      refine AllReady.cons rfl (fun K hK => ?_) AllReady.nil
                      (try simp only [List.getElem_toArray, List.getElem_cons_zero, List.getElem_cons_succ])
                      obtain ⟨_, _, _, _, f10, f11, f12, f13⟩ := b15.four
                      go_simp
                      refine hK _ _ ?_
                      clear hK K
                      (try simp only [Act.put, List.getElem_toArray, List.getElem_cons_zero, List.getElem_cons_succ, List.setIfInBounds_toArray, List.set_cons_zero, List.set_cons_succ])
                      generalize hv : World.setCell (World.setCell (World.setCell (World.setCell _ _ _) _ _) _ _) _ _ = v12
                      have c15 := q_blk hv b15
                      have c16 := q_far hv b16 (by omega)
                      have r5 := q_rq hv b15 r5
                      have r8 := q_rq hv b15 r8
                      have hbl := q_below hv hbl (Nat.le_refl _)
                      clear f10 f11 f12 f13 hv b15 b16 hp
                      refine wpAny_ready (rs := [20]) (by kernel_rfl) (by simp) ?_
                      refine AllReady.cons rfl (fun K hK => ?_) AllReady.nil
                      (try simp only [List.getElem_toArray, List.getElem_cons_zero, List.getElem_cons_succ])
                      obtain ⟨_, _, _, _, f10, f11, f12, f13⟩ := c16.four
                      go_simp
                      refine hK _ _ ?_
                      clear hK K
                      (try simp only [Act.put, List.getElem_toArray, List.getElem_cons_zero, List.getElem_cons_succ, List.setIfInBounds_toArray, List.set_cons_zero, List.set_cons_succ])
                      generalize hv : World.setCell (World.setCell (World.setCell (World.setCell _ _ _) _ _) _ _) _ _ = v13
                      have d16 := q_blk hv c16
                      have d15 := q_far hv c15 (by omega)
                      have r5 := q_rq hv c16 r5
                      have r8 := q_rq hv c16 r8
                      have hbl := q_below hv hbl (by omega)
                      refine wpAny_done (by kernel_rfl) ?_ _
                      have HF := Lib.hid (sm_next HSTF.out HSTH.out hbl d15 r5 d16 r8)
                      clear f10 f11 f12 f13 hv c15 c16 d15 d16 r5 r6 r8 hbl
                      go_wp2
                      go_roundw
                      case rel => exact ⟨i + 1, by omega, by first | rfl | (rw [HSTB.out]; rfl) | (rw [HSTB.out]; simp), by first | rfl | go_num, HF⟩
                      case measure => simp [intOf]; omega
                    exact AllReadyH.nil
                  exact AllReadyH.nil
                exact AllReadyH.nil
              exact AllReadyH.nil
            exact AllReadyH.nil
          exact AllReadyH.nil
      · obtain rfl : i = n := by omega
        have hfu : 0 < r1 → fullV (Rv.gt t1) (rmR us bs qs) i = true := fun h0 => by have := HM.out.2.2.2.2 h0; rwa [HLN.out] at this
        generalize fullV (Rv.gt t1) (rmR us bs qs) i = fb at *
        have hsum := HM.out.2.2.1
        have hrest := HM.out.2.2.2.1
        rw [HLN.out] at hsum
        have hc13 := HX.out.below h2r HX.out.lt
        obtain ⟨c0, c1, c2, c3, -, -, -, -⟩ := hc13.four
        have clt := hc13.lt
        have ult := hb15.lt
        have ylt := hb16.lt
        have HC13 := Lib.hid (fun w' (hk : Kp wr w') => show w'.cell? ⟨w2.heap.size, 0, none⟩ = some (.bool (decide (r1.num < 0))) ∧ w'.cell? ⟨w2.heap.size, 1, none⟩ = some (.slice F1 f1 g1) ∧ w'.cell? ⟨w2.heap.size, 2, none⟩ = some (.bool false) ∧ w'.cell? ⟨w2.heap.size, 3, none⟩ = some (.slice G1 i1 j1) from ⟨(Below.cell hk (p := ⟨w2.heap.size, _, none⟩) clt).trans c0, (Below.cell hk (p := ⟨w2.heap.size, _, none⟩) clt).trans c1, (Below.cell hk (p := ⟨w2.heap.size, _, none⟩) clt).trans c2, (Below.cell hk (p := ⟨w2.heap.size, _, none⟩) clt).trans c3⟩)
        have hqr := HR1.out.2.2.1.below h2r
        have hlr := HR1.out.2.2.2
        have hps : (Rv.sumF (Rv.gt t1) i + r1) = ((need : Int) : Rat) := hsum
        have hl17 : Lv (8 + i) (Rv.sumF (Rv.gt t1) i + r1) := (hls.add (hlr.mono (show 6 ≤ 7 + i by omega))).mono (by omega)
        have HLS := Lib.hid (And.intro hls hlc)
        have HQS := Lib.hid (And.intro hq15 hq16)
        have TA17 := Lib.hid (fun (W : World) (hW : Kp wr W) => add_k (k := 7 + i) (by have := HPM.out; omega) ((hq15.below hW).qk hls (by have := HPM.out; omega)) ((hqr.below hW).qk (hlr.mono (show 6 ≤ 7 + i by omega)) (by have := HPM.out; omega)))
        have TS := Lib.hid (fun (W : World) (hW : Kp wr W) => sign_k ((hqr.below hW).qk (K := 6) hlr (by omega)))
        have TN := Lib.hid (fun (W : World) => qfromInt64_any need W (by have := HPM.out; omega) (by have := HPM.out; omega))
        have hln : Lv (8 + i) ((need : Int) : Rat) := lv_int _ (by have := HPM.out; omega)
        have TEQ := Lib.hid (fun (W : World) (R R' A A' : Option Addr) (k d k' d' a b a' b' : Nat) (h1 : RQ W (Rv.sumF (Rv.gt t1) i + r1) R k d R' k' d') (h2 : RQ W ((need : Int) : Rat) A a b A' a' b') => eq_k (h1.qk hl17 (by have := HPM.out; omega)) (h2.qk hln (by have := HPM.out; omega)))
        rw [decide_eq_true hps] at TEQ
        have HSF : Hid (Rv.sumF (Rv.gt t1) i = Rv.sumF (Rv.gt t1) us.length) := Lib.hid (by rw [HLN.out])
        have HSH : Hid (Rv.sumF (fun i => Rv.gt t1 i * (((us[i]?.getD U0).spin : Int) : Rat)) i = Rv.sumF (fun i => Rv.gt t1 i * (((us[i]?.getD U0).spin : Int) : Rat)) us.length) := Lib.hid (by rw [HLN.out])
        generalize Rv.sumF (Rv.gt t1) i = sf at *
        generalize Rv.sumF (fun i => Rv.gt t1 i * (((us[i]?.getD U0).spin : Int) : Rat)) i = sh at *
        generalize sf + r1 = sr at *
        generalize ((need : Int) : Rat) = qn at *
        have e2 : decide (sgnQ r1 < 0) = false := by rw [sgn_neg]; exact decide_eq_false (Rat.not_lt.2 hrest)
        have HE3 := Lib.hid (sgn_pos r1)
        have HFU := Lib.hid hfu
        have HTWO := Lib.hid (fun w' (hk : Kp wr w') => show w'.cell? ⟨gs, 0, none⟩ = some (.bool (decide (sf.num < 0))) ∧ w'.cell? ⟨gs, 1, none⟩ = some (.slice AS ks cs) ∧ w'.cell? ⟨gs, 2, none⟩ = some (.bool false) ∧ w'.cell? ⟨gs, 3, none⟩ = some (.slice BS js ds) ∧ w'.cell? ⟨gs + 1, 0, none⟩ = some (.bool (decide (sh.num < 0))) ∧ w'.cell? ⟨gs + 1, 1, none⟩ = some (.slice AC kc cc) ∧ w'.cell? ⟨gs + 1, 2, none⟩ = some (.bool false) ∧ w'.cell? ⟨gs + 1, 3, none⟩ = some (.slice BC jc dc) from ⟨(Below.cell hk (p := ⟨gs, _, none⟩) ult).trans u0, (Below.cell hk (p := ⟨gs, _, none⟩) ult).trans u1, (Below.cell hk (p := ⟨gs, _, none⟩) ult).trans u2, (Below.cell hk (p := ⟨gs, _, none⟩) ult).trans u3, (Below.cell hk (p := ⟨gs + 1, _, none⟩) ylt).trans y0, (Below.cell hk (p := ⟨gs + 1, _, none⟩) ylt).trans y1, (Below.cell hk (p := ⟨gs + 1, _, none⟩) ylt).trans y2, (Below.cell hk (p := ⟨gs + 1, _, none⟩) ylt).trans y3⟩)
        generalize sgnQ r1 = sv at *
        have TZ2 := Lib.hid (fun W => qfromInt64_any 0 W (by omega) (by omega))
        clear hI h2r hwr hb15 hb16 hq15 hq16 hls hlc hfu hsum hrest hc13 hqr hlr hps hl17 hln y0 y1 y2 y3 c0 c1 c2 c3 u0 u1 u2 u3 ult ylt clt hlt
        go_upto_region 17 with fail
        go_cut [136] (fun s wx => s = .bool false ∧ Hid (Kp wr wx))
        case first =>
          by_cases h0 : 0 < r1
          · obtain rfl := HFU.out h0
            have e3 : decide (0 < sv) = true := by rw [HE3.out]; exact decide_eq_true h0
            clear h0 HFU HE3
            obtain ⟨c0, c1, c2, c3⟩ := HC13.out wr (Kp.refl wr)
            obtain ⟨u0, u1, u2, u3, -, -, -, -⟩ := HTWO.out wr (Kp.refl wr)
            go_wp2_with fail
            refine (TA17.out _ (Kp.refl wr)).mono ?_
            rintro e v1 ⟨P1, p1', p2, P2, p3, p4, rfl, hz1, hz2, hz3, hz4, -, -, hbx⟩
            have hp1 : Kp wr v1 := hbx
            have r5 : RQ v1 sr P1 p1' p2 P2 p3 p4 := ⟨hz1, hz2, hz3, hz4⟩
            clear hbx hz1 hz2 hz3 hz4 c0 c1 c2 c3 u0 u1 u2 u3
            go_wp2_with fail
            refine (TN.out _).mono ?_
            rintro e v2 ⟨P3, p5, p6, P4, p7, p8, rfl, hz1, hz2, hz3, hz4, -, -, hbx⟩
            have hp2 : Kp wr v2 := Kp.trans hp1 hbx
            have r5 := r5.below hbx
            have r6 : RQ v2 qn P3 p5 p6 P4 p7 p8 := ⟨hz1, hz2, hz3, hz4⟩
            clear hbx hz1 hz2 hz3 hz4 hp1
            go_wp2_with fail
            refine (TEQ.out _ _ _ _ _ _ _ _ _ _ _ _ _ r5 r6).mono ?_
            rintro e v3 ⟨rfl, hbx⟩
            have hp3 : Kp wr v3 := Kp.trans hp2 hbx
            obtain ⟨c0, c1, c2, c3⟩ := HC13.out v3 hp3
            clear hbx hp2 r5 r6
            go_wp2_with fail
            refine (TS.out _ hp3).mono ?_
            rintro e v4 ⟨rfl, hbx⟩
            have hp4 : Kp wr v4 := Kp.trans hp3 hbx
            obtain ⟨d0, d1, d2, d3⟩ := HC13.out v4 hp4
            clear hbx hp3 c0 c1 c2 c3
            go_wp2_with fail
            refine (TS.out _ hp4).mono ?_
            rintro e v5 ⟨rfl, hbx⟩
            have HF5 := Lib.hid (show Kp wr v5 from Kp.trans hp4 hbx)
            clear hbx hp4 d0 d1 d2 d3
            (try go_wp2_with fail)
            go_meet
            exact ⟨rfl, HF5⟩
          · have e3 : decide (0 < sv) = false := by rw [HE3.out]; exact decide_eq_false h0
            clear h0 HFU HE3
            obtain ⟨c0, c1, c2, c3⟩ := HC13.out wr (Kp.refl wr)
            obtain ⟨u0, u1, u2, u3, -, -, -, -⟩ := HTWO.out wr (Kp.refl wr)
            go_wp2_with fail
            refine (TA17.out _ (Kp.refl wr)).mono ?_
            rintro e v1 ⟨P1, p1', p2, P2, p3, p4, rfl, hz1, hz2, hz3, hz4, -, -, hbx⟩
            have hp1 : Kp wr v1 := hbx
            have r5 : RQ v1 sr P1 p1' p2 P2 p3 p4 := ⟨hz1, hz2, hz3, hz4⟩
            clear hbx hz1 hz2 hz3 hz4 c0 c1 c2 c3 u0 u1 u2 u3
            go_wp2_with fail
            refine (TN.out _).mono ?_
            rintro e v2 ⟨P3, p5, p6, P4, p7, p8, rfl, hz1, hz2, hz3, hz4, -, -, hbx⟩
            have hp2 : Kp wr v2 := Kp.trans hp1 hbx
            have r5 := r5.below hbx
            have r6 : RQ v2 qn P3 p5 p6 P4 p7 p8 := ⟨hz1, hz2, hz3, hz4⟩
            clear hbx hz1 hz2 hz3 hz4 hp1
            go_wp2_with fail
            refine (TEQ.out _ _ _ _ _ _ _ _ _ _ _ _ _ r5 r6).mono ?_
            rintro e v3 ⟨rfl, hbx⟩
            have hp3 : Kp wr v3 := Kp.trans hp2 hbx
            obtain ⟨c0, c1, c2, c3⟩ := HC13.out v3 hp3
            clear hbx hp2 r5 r6
            go_wp2_with fail
            refine (TS.out _ hp3).mono ?_
            rintro e v4 ⟨rfl, hbx⟩
            have hp4 : Kp wr v4 := Kp.trans hp3 hbx
            obtain ⟨d0, d1, d2, d3⟩ := HC13.out v4 hp4
            clear hbx hp3 c0 c1 c2 c3
            go_wp2_with fail
            refine (TS.out _ hp4).mono ?_
            rintro e v5 ⟨rfl, hbx⟩
            have HF5 := Lib.hid (show Kp wr v5 from Kp.trans hp4 hbx)
            clear hbx hp4 d0 d1 d2 d3
            (try go_wp2_with fail)
            go_meet
            exact ⟨rfl, HF5⟩
        case rest =>
          obtain ⟨rfl, HV⟩ := hcut
          generalize wc = V6 at *
          clear TA17 TS TN TEQ e2 HFU HE3
          go_wp2_with fail
          refine (TZ2.out _).mono ?_
          rintro e w4 ⟨F3, f3, g3, G3, i3, j3, rfl, hz1, hz2, hz3, hz4, -, -, hb4⟩
          have H4 := Lib.hid (And.intro (show RQ w4 ((0 : Int) : Rat) F3 f3 g3 G3 i3 j3 from ⟨hz1, hz2, hz3, hz4⟩) hb4)
          clear hz1 hz2 hz3 hz4 hb4
          go_wp2_with fail
          refine (TZ2.out _).mono ?_
          rintro e w5 ⟨F4, f4, g4, G4, i4, j4, rfl, hz1, hz2, hz3, hz4, -, -, hb5⟩
          have H5 := Lib.hid (And.intro (show RQ w5 ((0 : Int) : Rat) F4 f4 g4 G4 i4 j4 from ⟨hz1, hz2, hz3, hz4⟩) hb5)
          clear hz1 hz2 hz3 hz4 hb5 TZ2
          go_wp2_with fail
          have hx5 : Below w5.heap.size w5 ((w5.alloc (.cells #[.bool false, .slice F3 f3 g3, .bool false, .slice G3 i3 j3] 31)).alloc (.cells #[.bool false, .slice F4 f4 g4, .bool false, .slice G4 i4 j4] 31)) := ((Below.refl _ _).alloc (Nat.le_refl _) _).alloc (by simp only [World.size_alloc]; omega) _
          have hB15 : Blk ((w5.alloc (.cells #[.bool false, .slice F3 f3 g3, .bool false, .slice G3 i3 j3] 31)).alloc (.cells #[.bool false, .slice F4 f4 g4, .bool false, .slice G4 i4 j4] 31)) w5.heap.size 31 #[.bool false, .slice F3 f3 g3, .bool false, .slice G3 i3 j3] := (Blk.new w5 31 #[.bool false, .slice F3 f3 g3, .bool false, .slice G3 i3 j3]).alloc _
          have hB16 : Blk ((w5.alloc (.cells #[.bool false, .slice F3 f3 g3, .bool false, .slice G3 i3 j3] 31)).alloc (.cells #[.bool false, .slice F4 f4 g4, .bool false, .slice G4 i4 j4] 31)) (w5.heap.size + 1) 31 #[.bool false, .slice F4 f4 g4, .bool false, .slice G4 i4 j4] := Blk.new1 w5 (.cells #[.bool false, .slice F3 f3 g3, .bool false, .slice G3 i3 j3] 31) 31 #[.bool false, .slice F4 f4 g4, .bool false, .slice G4 i4 j4]
          have HA2 := Lib.hid (And.intro (Kp.trans (Kp.trans (Kp.trans HV.out H4.out.2) H5.out.2) hx5) (And.intro (Nat.le_trans (Below.size HV.out) (Nat.le_trans H4.out.2.size H5.out.2.size)) (And.intro hB15 (And.intro ((H4.out.1.below H5.out.2).below hx5) (And.intro hB16 (H5.out.1.below hx5))))))
          clear hx5 hB15 hB16 H4 H5 HV
          generalize (w5.alloc (.cells #[.bool false, .slice F3 f3 g3, .bool false, .slice G3 i3 j3] 31)).alloc (.cells #[.bool false, .slice F4 f4 g4, .bool false, .slice G4 i4 j4] 31) = V' at *
          generalize w5.heap.size = gs2 at *
          clear w4 w5
          obtain ⟨wv, rfl⟩ : ∃ v, v = wr := ⟨_, rfl⟩
          go_loopw [22] (fun t wq => ∃ k : Nat, k ≤ q ∧ t = .int .i64 (k : Int) ∧ (q = i ∨ k = 0) ∧ (∀ j, j < k → 0 ≤ Rv.gt ps j ∧ Rv.gt ps j ≤ rmR us bs qs j) ∧ Hid (SmI gs2 V' (Rv.gt ps) (fun i => Rv.gt ps i * (((us[i]?.getD U0).spin : Int) : Rat)) k wq)) (fun t _ => q - (intOf t).toNat)
          case atStart => exact ⟨0, Nat.zero_le _, rfl, .inr rfl, fun j hj => absurd hj (Nat.not_lt_zero j), Lib.hid ⟨Below.refl _ _, F3, f3, g3, G3, i3, j3, F4, f4, g4, G4, i4, j4, HA2.out.2.2.1, HA2.out.2.2.2.1, HA2.out.2.2.2.2.1, HA2.out.2.2.2.2.2⟩⟩
          case round =>
            obtain ⟨k, hk, rfl, hqk, hall, hI⟩ := hrel
            have h2q := Below.trans HA2.out.1 (hI.out.1.mono HA2.out.2.1)
            have hwr := HWR.out.trans (h2q.mono (Below.size HWR.out))
            have HWR2 := Lib.hid hwr
            have HBL := Lib.hid hI.out.1
            have HKQ := Lib.hid h2q
            have HOLD := Lib.hid (HTWO.out wr h2q)
            obtain ⟨-, AS, ks, cs, BS, js, ds, AC, kc, cc, BC, jc, dc, hb15, hq15, hb16, hq16⟩ := hI.out
            obtain ⟨u0, u1, u2, u3, -, -, -, -⟩ := hb15.four
            obtain ⟨y0, y1, y2, y3, -, -, -, -⟩ := hb16.four
            have HB15r := Lib.hid hb15
            have HB16r := Lib.hid hb16
            have HGL := Lib.hid (Nat.le_of_lt hb15.lt)
            have ult := hb15.lt
            have ylt := hb16.lt
            have hlps : ∀ j, j < k → Lv 0 (Rv.gt ps j) := fun j hj => by
              obtain ⟨_, _, _, _, hz⟩ := HR.out.2 (by omega)
              obtain ⟨_, _, _, _, _, _, _, _, _, _, _, _, hz'⟩ := hz j (by omega)
              exact hz'.lv
            have hki6 : k ≤ 5 := by have := HPM.out; omega
            have hls : Lv (1 + k) (Rv.sumF (Rv.gt ps) k) := (sumF_lv (K := 0) hlps).mono (by omega)
            have hlc : Lv (2 + k) (Rv.sumF (fun i => Rv.gt ps i * (((us[i]?.getD U0).spin : Int) : Rat)) k) := (sumF_lv (K := 1) (fun j hj => (hlps j hj).mul (lv_int 0 (by have := HM.out.2.1 j (by omega); omega)))).mono (by omega)
            by_cases hkq : k < q
            · by_cases hqn : q = i
              · have hki : k < i := by omega
                have him : k < m := by have := HPM.out; omega
                have hip : k < p := by have := HPM.out; omega
                obtain ⟨b, o, rfl, hb, hcell⟩ := HU.out.2 (by omega)
                obtain ⟨b', o', rfl, hb', hcell'⟩ := HBS.out.2 (by omega)
                obtain ⟨b2, o2, rfl, hb2, hcell2⟩ := HQ.out.2 (by omega)
                obtain ⟨b3, o3, rfl, hb3, hcell3⟩ := HR.out.2 (by omega)
                have hun := (hcell k hki).below hb hwr
                have hon := (Below.cell hwr (p := ⟨b', o' + k, none⟩) hb').trans (hcell' k him)
                obtain ⟨an, aA, ak, ac, an', aA', ak', ac', z1, z2, z3, z4, hq⟩ := hcell2 k hip
                obtain ⟨rn, rA, rk, rc, rn', rA', rk', rc', x0, x1, x2, x3, hrq⟩ := hcell3 k hkq
                have z1 := (Below.cell hwr (p := ⟨b2, o2 + k * 4, none⟩) hb2).trans z1
                have z2 := (Below.cell hwr (p := ⟨b2, o2 + k * 4 + 1, none⟩) hb2).trans z2
                have z3 := (Below.cell hwr (p := ⟨b2, o2 + k * 4 + 2, none⟩) hb2).trans z3
                have z4 := (Below.cell hwr (p := ⟨b2, o2 + k * 4 + 3, none⟩) hb2).trans z4
                have x0 := (Below.cell hwr (p := ⟨b3, o3 + k * 4, none⟩) hb3).trans x0
                have x1 := (Below.cell hwr (p := ⟨b3, o3 + k * 4 + 1, none⟩) hb3).trans x1
                have x2 := (Below.cell hwr (p := ⟨b3, o3 + k * 4 + 2, none⟩) hb3).trans x2
                have x3 := (Below.cell hwr (p := ⟨b3, o3 + k * 4 + 3, none⟩) hb3).trans x3
                have hq := hq.below hwr
                have hrq := hrq.below hwr
                have hbr : b < wr.heap.size := Nat.lt_of_lt_of_le hb (Below.size hwr)
                have hbr' : b' < wr.heap.size := Nat.lt_of_lt_of_le hb' (Below.size hwr)
                have hbr2 : b2 < wr.heap.size := Nat.lt_of_lt_of_le hb2 (Below.size hwr)
                have hbr3 : b3 < wr.heap.size := Nat.lt_of_lt_of_le hb3 (Below.size hwr)
                obtain ⟨m5, m6, m7, m8⟩ := HM.out.2.1 k hki
                have hstf : Rv.sumF (Rv.gt ps) (k + 1) = Rv.sumF (Rv.gt ps) k + ps[k]?.getD 0 := rfl
                have hsth : Rv.sumF (fun i => Rv.gt ps i * (((us[i]?.getD U0).spin : Int) : Rat)) (k + 1) = Rv.sumF (fun i => Rv.gt ps i * (((us[i]?.getD U0).spin : Int) : Rat)) k + ps[k]?.getD 0 * (((us[k]?.getD U0).spin : Int) : Rat) := rfl
                have hnext : decide (sgnQ (ps[k]?.getD 0) < 0) = false → decide (0 < cmpQ (ps[k]?.getD 0) (roomV (bs[k]?.getD false) (us[k]?.getD U0) (qs[k]?.getD 0))) = false → ∀ j, j < k + 1 → 0 ≤ Rv.gt ps j ∧ Rv.gt ps j ≤ rmR us bs qs j := fun h1 h2 j hj => by
                  rcases Nat.lt_or_ge j k with h | h
                  · exact hall j h
                  · obtain rfl : j = k := by omega
                    rw [sgn_neg] at h1
                    rw [cmp_pos] at h2
                    exact ⟨Rat.not_lt.1 (of_decide_eq_false h1), Rat.not_lt.1 (of_decide_eq_false h2)⟩
                generalize Rv.sumF (Rv.gt ps) k = sf at *
                generalize Rv.sumF (fun i => Rv.gt ps i * (((us[i]?.getD U0).spin : Int) : Rat)) k = sh at *
                generalize bs[k]?.getD false = bk at *
                generalize us[k]?.getD U0 = un at *
                generalize qs[k]?.getD 0 = q0 at *
                have hla := hrq.lv
                generalize ps[k]?.getD 0 = ta at *
                obtain ⟨bus, mn, st, up, dn, start, idle, spin, on⟩ := un
                obtain ⟨A', n', c', ⟨f1, f2, f3, f4, f5, f6, f7, f8, f9⟩, hs, hn'⟩ := hun
                simp only at f1 f2 f3 f4 f5 f6 f7 f8 f9 hs m7 m8 hsth
                have TS0 := Lib.hid (fun (W : World) (hW : Kp wr W) => sign_k (hrq.below hW))
                have hlr : Lv 1 (roomV bk ⟨bus, mn, st, up, dn, start, idle, spin, on⟩ q0) := by
                  unfold roomV
                  split
                  · exact (lv_int 0 (by omega)).sub hq.lv
                  · exact lv_int 1 (by decide)
                have TR := Lib.hid (fun (W : World) (hW : Kp wr W) => room_any 0 (by omega) bk bus mn up dn start idle spin on A' aA aA' n' c' ak ac ak' ac' an an' st q0 W (hs.below hW) hn' (hq.below hW) m5 m6)
                generalize roomV bk ⟨bus, mn, st, up, dn, start, idle, spin, on⟩ q0 = rv at *
                have TC := Lib.hid (fun (W : World) (hW : Kp wr W) (R R' : Option Addr) (k d k' d' : Nat) (h : RQ W rv R k d R' k' d') => cmp_k (k := 1) ((hrq.below hW).mono (by omega)) (h.qk hlr (by omega)))
                have TFI := Lib.hid (fun (W : World) => qfromInt64_any spin W (by omega) (by omega))
                have hlsp := lv_int 0 (z := spin) (by omega)
                have TM := Lib.hid (fun (W : World) (hW : Kp wr W) (R R' : Option Addr) (k d k' d' : Nat) (h : RQ W ((spin : Int) : Rat) R k d R' k' d') => mul_k (k := 0) (by omega) (hrq.below hW) (h.qk hlsp (by omega)))
                have hltm := hla.mul hlsp
                generalize ta * ((spin : Int) : Rat) = tm at *
                generalize ((spin : Int) : Rat) = fs at *
                have TA1 := Lib.hid (fun (W : World) (hW : Kp wr W) => add_k (k := 1 + k) (by omega) ((hq15.below hW).qk hls (by omega)) ((hrq.below hW).mono (by omega)))
                have TA2 := Lib.hid (fun (W : World) (hW : Kp wr W) (R R' : Option Addr) (k1 d k' d' : Nat) (h : RQ W tm R k1 d R' k' d') => add_k (k := 2 + k) (by omega) ((hq16.below hW).qk hlc (by omega)) (h.qk (hltm.mono (by omega)) (by omega)))
                generalize sf + ta = sf2 at *
                generalize sh + tm = sh2 at *
                have HSTF := Lib.hid hstf
                have HSTH := Lib.hid hsth
                have HNEXT := Lib.hid hnext
                have e0 : ((q : Int) != (i : Int)) = false := by subst hqn; simp
                have hki1 : (0 : Int) ≤ (k : Int) := by omega
                have hki2 : (k : Int) < (q : Int) := by omega
                have hki3 : (k : Int) < (i : Int) := by omega
                have hki4 : (k : Int) < (m : Int) := by omega
                have hki5 : (k : Int) < (p : Int) := by omega
                have HS := Lib.hid (show ∀ w', Kp wr w' → (w'.cell? ⟨b3, o3 + k * 4, none⟩ = some (.bool rn) ∧ w'.cell? ⟨b3, o3 + k * 4 + 1, none⟩ = some (.slice rA rk rc) ∧ w'.cell? ⟨b3, o3 + k * 4 + 2, none⟩ = some (.bool rn') ∧ w'.cell? ⟨b3, o3 + k * 4 + 3, none⟩ = some (.slice rA' rk' rc') ∧ w'.cell? ⟨b, o + k * 9, none⟩ = some (.int .i64 bus) ∧ w'.cell? ⟨b, o + k * 9 + 1, none⟩ = some (.int .i64 mn) ∧ w'.cell? ⟨b, o + k * 9 + 2, none⟩ = some (.slice A' n' c') ∧ w'.cell? ⟨b, o + k * 9 + 3, none⟩ = some (.int .i64 up) ∧ w'.cell? ⟨b, o + k * 9 + 4, none⟩ = some (.int .i64 dn) ∧ w'.cell? ⟨b, o + k * 9 + 5, none⟩ = some (.int .i64 start) ∧ w'.cell? ⟨b, o + k * 9 + 6, none⟩ = some (.int .i64 idle) ∧ w'.cell? ⟨b, o + k * 9 + 7, none⟩ = some (.int .i64 spin) ∧ w'.cell? ⟨b, o + k * 9 + 8, none⟩ = some (.int .i64 on) ∧ w'.cell? ⟨b', o' + k, none⟩ = some (.bool bk) ∧ w'.cell? ⟨b2, o2 + k * 4, none⟩ = some (.bool an) ∧ w'.cell? ⟨b2, o2 + k * 4 + 1, none⟩ = some (.slice aA ak ac) ∧ w'.cell? ⟨b2, o2 + k * 4 + 2, none⟩ = some (.bool an') ∧ w'.cell? ⟨b2, o2 + k * 4 + 3, none⟩ = some (.slice aA' ak' ac')) ∧ Kp wr w' from fun w' hk => ⟨⟨(Below.cell hk (p := ⟨b3, _, none⟩) hbr3).trans x0, (Below.cell hk (p := ⟨b3, _, none⟩) hbr3).trans x1, (Below.cell hk (p := ⟨b3, _, none⟩) hbr3).trans x2, (Below.cell hk (p := ⟨b3, _, none⟩) hbr3).trans x3, (Below.cell hk (p := ⟨b, _, none⟩) hbr).trans f1, (Below.cell hk (p := ⟨b, _, none⟩) hbr).trans f2, (Below.cell hk (p := ⟨b, _, none⟩) hbr).trans f3, (Below.cell hk (p := ⟨b, _, none⟩) hbr).trans f4, (Below.cell hk (p := ⟨b, _, none⟩) hbr).trans f5, (Below.cell hk (p := ⟨b, _, none⟩) hbr).trans f6, (Below.cell hk (p := ⟨b, _, none⟩) hbr).trans f7, (Below.cell hk (p := ⟨b, _, none⟩) hbr).trans f8, (Below.cell hk (p := ⟨b, _, none⟩) hbr).trans f9, (Below.cell hk (p := ⟨b', _, none⟩) hbr').trans hon, (Below.cell hk (p := ⟨b2, _, none⟩) hbr2).trans z1, (Below.cell hk (p := ⟨b2, _, none⟩) hbr2).trans z2, (Below.cell hk (p := ⟨b2, _, none⟩) hbr2).trans z3, (Below.cell hk (p := ⟨b2, _, none⟩) hbr2).trans z4⟩, hk⟩)
                have hk0 := Kp.refl wr
                have i1 : IntKind.i64.wrap ((k : Int) + 1) = ((k + 1 : Nat) : Int) := IntWalk.i64_in _ (by omega)
                have HSQ : Hid (q = i ∨ k + 1 = 0) := Lib.hid (.inl hqn)
                obtain ⟨cv, HCV⟩ : ∃ cv, cv = cmpQ ta rv := ⟨_, rfl⟩
                rw [← HCV] at TC HNEXT
                obtain ⟨cb, hcb⟩ : ∃ cb, decide (0 < cv) = cb := ⟨_, rfl⟩
                rw [hcb] at HNEXT
                generalize sgnQ ta = sv at *
                clear hqn hqk
                clear HCV hb hb' hb2 hb3 hcell hcell' hcell2 hcell3 hI h2q hwr hq hrq hs hn' m5 m6 m7 m8 hla hls hlc hlr hlsp hltm hb15 hb16 hq15 hq16 hstf hsth hnext hall hlps
                obtain ⟨sb, e1⟩ : ∃ sb, decide (sv < 0) = sb := ⟨_, rfl⟩
                rw [e1] at HNEXT
                go_wp2_with fail
                cases sb
                · refine wp_region_held_drew (S := fun w' => (w'.cell? ⟨b3, o3 + k * 4, none⟩ = some (.bool rn) ∧ w'.cell? ⟨b3, o3 + k * 4 + 1, none⟩ = some (.slice rA rk rc) ∧ w'.cell? ⟨b3, o3 + k * 4 + 2, none⟩ = some (.bool rn') ∧ w'.cell? ⟨b3, o3 + k * 4 + 3, none⟩ = some (.slice rA' rk' rc') ∧ w'.cell? ⟨b, o + k * 9, none⟩ = some (.int .i64 bus) ∧ w'.cell? ⟨b, o + k * 9 + 1, none⟩ = some (.int .i64 mn) ∧ w'.cell? ⟨b, o + k * 9 + 2, none⟩ = some (.slice A' n' c') ∧ w'.cell? ⟨b, o + k * 9 + 3, none⟩ = some (.int .i64 up) ∧ w'.cell? ⟨b, o + k * 9 + 4, none⟩ = some (.int .i64 dn) ∧ w'.cell? ⟨b, o + k * 9 + 5, none⟩ = some (.int .i64 start) ∧ w'.cell? ⟨b, o + k * 9 + 6, none⟩ = some (.int .i64 idle) ∧ w'.cell? ⟨b, o + k * 9 + 7, none⟩ = some (.int .i64 spin) ∧ w'.cell? ⟨b, o + k * 9 + 8, none⟩ = some (.int .i64 on) ∧ w'.cell? ⟨b', o' + k, none⟩ = some (.bool bk) ∧ w'.cell? ⟨b2, o2 + k * 4, none⟩ = some (.bool an) ∧ w'.cell? ⟨b2, o2 + k * 4 + 1, none⟩ = some (.slice aA ak ac) ∧ w'.cell? ⟨b2, o2 + k * 4 + 2, none⟩ = some (.bool an') ∧ w'.cell? ⟨b2, o2 + k * 4 + 3, none⟩ = some (.slice aA' ak' ac')) ∧ Kp wr w') (by kernel_rfl) (HS.out _ (Kp.drew hk0)) (fun hHeld => ?_)
                  refine wpAnyH_take (i := 0) (v := ?v373) rfl (by kernel_rfl) (by kernel_rfl) (by kernel_rfl) (fun _ _ _ h => h) (Or.inl ⟨by rfl, ?y373⟩) (by assumption) ?r373
                  case y373 => (intro w hSw; (try dsimp only at hSw); (try simp only [List.getElem_toArray, List.getElem_cons_zero, List.getElem_cons_succ]); go_simp; first | done | with_reducible rfl)
                  (try simp only [Act.put, List.getElem_toArray, List.getElem_cons_zero, List.getElem_cons_succ, List.setIfInBounds_toArray, List.set_cons_zero, List.set_cons_succ])
                  refine wpAnyH_take (i := 1) (v := ?v374) rfl (by kernel_rfl) (by kernel_rfl) (by kernel_rfl) (fun _ _ _ h => h) (Or.inl ⟨by rfl, ?y374⟩) (by assumption) ?r374
                  case y374 => (intro w hSw; (try dsimp only at hSw); (try simp only [List.getElem_toArray, List.getElem_cons_zero, List.getElem_cons_succ]); go_simp; first | done | with_reducible rfl)
                  (try simp only [Act.put, List.getElem_toArray, List.getElem_cons_zero, List.getElem_cons_succ, List.setIfInBounds_toArray, List.set_cons_zero, List.set_cons_succ])
                  refine wpAnyH_take (i := 2) (v := ?v375) rfl (by kernel_rfl) (by kernel_rfl) (by kernel_rfl) (fun _ _ _ h => h) (Or.inl ⟨by rfl, ?y375⟩) (by assumption) ?r375
                  case y375 => (intro w hSw; (try dsimp only at hSw); (try simp only [List.getElem_toArray, List.getElem_cons_zero, List.getElem_cons_succ]); go_simp; first | done | with_reducible rfl)
                  (try simp only [Act.put, List.getElem_toArray, List.getElem_cons_zero, List.getElem_cons_succ, List.setIfInBounds_toArray, List.set_cons_zero, List.set_cons_succ])
                  refine wpAnyH_take (i := 3) (v := ?v376) rfl (by kernel_rfl) (by kernel_rfl) (by kernel_rfl) (fun _ _ _ h => h) (Or.inl ⟨by rfl, ?y376⟩) (by assumption) ?r376
                  case y376 => (intro w hSw; (try dsimp only at hSw); (try simp only [List.getElem_toArray, List.getElem_cons_zero, List.getElem_cons_succ]); go_simp; first | done | with_reducible rfl)
                  (try simp only [Act.put, List.getElem_toArray, List.getElem_cons_zero, List.getElem_cons_succ, List.setIfInBounds_toArray, List.set_cons_zero, List.set_cons_succ])
                  refine wpAnyH_take (i := 4) (v := ?v377) rfl (by kernel_rfl) (by kernel_rfl) (by kernel_rfl) (fun _ _ _ h => h) (Or.inl ⟨by rfl, ?y377⟩) (by assumption) ?r377
                  case y377 => (intro w hSw; (try dsimp only at hSw); (try simp only [List.getElem_toArray, List.getElem_cons_zero, List.getElem_cons_succ]); go_simp; first | done | with_reducible rfl)
                  (try simp only [Act.put, List.getElem_toArray, List.getElem_cons_zero, List.getElem_cons_succ, List.setIfInBounds_toArray, List.set_cons_zero, List.set_cons_succ])
                  refine wpAnyH_take (i := 5) (v := ?v378) rfl (by kernel_rfl) (by kernel_rfl) (by kernel_rfl) (fun _ _ _ h => h) (Or.inl ⟨by rfl, ?y378⟩) (by assumption) ?r378
                  case y378 => (intro w hSw; (try dsimp only at hSw); (try simp only [List.getElem_toArray, List.getElem_cons_zero, List.getElem_cons_succ]); go_simp; first | done | with_reducible rfl)
                  (try simp only [Act.put, List.getElem_toArray, List.getElem_cons_zero, List.getElem_cons_succ, List.setIfInBounds_toArray, List.set_cons_zero, List.set_cons_succ])
                  refine wpAnyH_take (i := 6) (v := ?v379) rfl (by kernel_rfl) (by kernel_rfl) (by kernel_rfl) (fun _ _ _ h => h) (Or.inl ⟨by rfl, ?y379⟩) (by assumption) ?r379
                  case y379 => (intro w hSw; (try dsimp only at hSw); (try simp only [List.getElem_toArray, List.getElem_cons_zero, List.getElem_cons_succ]); go_simp; first | done | with_reducible rfl)
                  (try simp only [Act.put, List.getElem_toArray, List.getElem_cons_zero, List.getElem_cons_succ, List.setIfInBounds_toArray, List.set_cons_zero, List.set_cons_succ])
                  refine wpAnyH_take (i := 7) (v := ?v380) rfl (by kernel_rfl) (by kernel_rfl) (by kernel_rfl) (fun _ _ _ h => h) (Or.inl ⟨by rfl, ?y380⟩) (by assumption) ?r380
                  case y380 => (intro w hSw; (try dsimp only at hSw); (try simp only [List.getElem_toArray, List.getElem_cons_zero, List.getElem_cons_succ]); go_simp; first | done | with_reducible rfl)
                  (try simp only [Act.put, List.getElem_toArray, List.getElem_cons_zero, List.getElem_cons_succ, List.setIfInBounds_toArray, List.set_cons_zero, List.set_cons_succ])
                  refine wpAnyH_take (i := 8) (v := ?v381) rfl (by kernel_rfl) (by kernel_rfl) (by kernel_rfl) (fun _ _ _ h => h) (Or.inl ⟨by rfl, ?y381⟩) (by assumption) ?r381
                  case y381 => (intro w hSw; (try dsimp only at hSw); (try simp only [List.getElem_toArray, List.getElem_cons_zero, List.getElem_cons_succ]); go_simp; first | done | with_reducible rfl)
                  (try simp only [Act.put, List.getElem_toArray, List.getElem_cons_zero, List.getElem_cons_succ, List.setIfInBounds_toArray, List.set_cons_zero, List.set_cons_succ])
                  refine wpAnyH_take (i := 9) (v := ?v382) rfl (by kernel_rfl) (by kernel_rfl) (by kernel_rfl) (fun _ _ _ h => h) (Or.inl ⟨by rfl, ?y382⟩) (by assumption) ?r382
                  case y382 => (intro w hSw; (try dsimp only at hSw); (try simp only [List.getElem_toArray, List.getElem_cons_zero, List.getElem_cons_succ]); go_simp; first | done | with_reducible rfl)
                  (try simp only [Act.put, List.getElem_toArray, List.getElem_cons_zero, List.getElem_cons_succ, List.setIfInBounds_toArray, List.set_cons_zero, List.set_cons_succ])
                  refine wpAnyH_ready (rs := [10]) (by kernel_rfl) (by simp) ?_
                  refine AllReadyH.cons rfl (fun K hK => ?_) ?_
                  · (try simp only [List.getElem_toArray, List.getElem_cons_zero, List.getElem_cons_succ])
                    go_simp
                    have hk := And.right ‹_ ∧ Kp wr _›
                    refine (TS0.out _ hk).mono ?_
                    rintro e v1 ⟨rfl, hbx⟩
                    have hp := Kp.trans hk hbx
                    clear hk hbx 
                    (try (go_wp2_with fail))
                    refine hK.out _ _ ?k384 (fun hHeld384 => ?n384)
                    case k384 => ((try dsimp only); first | (with_reducible refine HS.out _ ?_; with_reducible assumption) | (with_reducible refine HS.out _ (Kp.drew ?_); with_reducible assumption) | (with_reducible refine' HS.out _ (Kp.drew (And.right ?_)); rotate_left; with_reducible assumption))
                    clear hK K
                    (try simp only [Act.put, List.getElem_toArray, List.getElem_cons_zero, List.getElem_cons_succ, List.setIfInBounds_toArray, List.set_cons_zero, List.set_cons_succ])
                    refine wpAnyH_take (i := 11) (v := ?v385) rfl (by kernel_rfl) (by kernel_rfl) (by kernel_rfl) (fun _ _ _ h => h) (Or.inl ⟨by rfl, ?y385⟩) (by assumption) ?r385
                    case y385 => (intro w hSw; (try dsimp only at hSw); (try simp only [List.getElem_toArray, List.getElem_cons_zero, List.getElem_cons_succ]); go_simp; first | done | with_reducible rfl)
                    (try simp only [Act.put, List.getElem_toArray, List.getElem_cons_zero, List.getElem_cons_succ, List.setIfInBounds_toArray, List.set_cons_zero, List.set_cons_succ])
                    refine wpAnyH_take (i := 12) (v := ?v386) rfl (by kernel_rfl) (by kernel_rfl) (by kernel_rfl) (fun _ _ _ h => h) (Or.inl ⟨by rfl, ?y386⟩) (by assumption) ?r386
                    case y386 => (intro w hSw; (try dsimp only at hSw); (try simp only [List.getElem_toArray, List.getElem_cons_zero, List.getElem_cons_succ]); go_simp; first | done | with_reducible rfl)
                    (try simp only [Act.put, List.getElem_toArray, List.getElem_cons_zero, List.getElem_cons_succ, List.setIfInBounds_toArray, List.set_cons_zero, List.set_cons_succ])
                    refine wpAnyH_take (i := 13) (v := ?v387) rfl (by kernel_rfl) (by kernel_rfl) (by kernel_rfl) (fun _ _ _ h => h) (Or.inl ⟨by rfl, ?y387⟩) (by assumption) ?r387
                    case y387 => (intro w hSw; (try dsimp only at hSw); (try simp only [List.getElem_toArray, List.getElem_cons_zero, List.getElem_cons_succ]); go_simp; first | done | with_reducible rfl)
                    (try simp only [Act.put, List.getElem_toArray, List.getElem_cons_zero, List.getElem_cons_succ, List.setIfInBounds_toArray, List.set_cons_zero, List.set_cons_succ])
                    refine wpAnyH_take (i := 14) (v := ?v388) rfl (by kernel_rfl) (by kernel_rfl) (by kernel_rfl) (fun _ _ _ h => h) (Or.inl ⟨by rfl, ?y388⟩) (by assumption) ?r388
                    case y388 => (intro w hSw; (try dsimp only at hSw); (try simp only [List.getElem_toArray, List.getElem_cons_zero, List.getElem_cons_succ]); go_simp; first | done | with_reducible rfl)
                    (try simp only [Act.put, List.getElem_toArray, List.getElem_cons_zero, List.getElem_cons_succ, List.setIfInBounds_toArray, List.set_cons_zero, List.set_cons_succ])
                    refine wpAnyH_take (i := 15) (v := ?v389) rfl (by kernel_rfl) (by kernel_rfl) (by kernel_rfl) (fun _ _ _ h => h) (Or.inl ⟨by rfl, ?y389⟩) (by assumption) ?r389
                    case y389 => (intro w hSw; (try dsimp only at hSw); (try simp only [List.getElem_toArray, List.getElem_cons_zero, List.getElem_cons_succ]); go_simp; first | done | with_reducible rfl)
                    (try simp only [Act.put, List.getElem_toArray, List.getElem_cons_zero, List.getElem_cons_succ, List.setIfInBounds_toArray, List.set_cons_zero, List.set_cons_succ])
                    refine wpAnyH_take (i := 16) (v := ?v390) rfl (by kernel_rfl) (by kernel_rfl) (by kernel_rfl) (fun _ _ _ h => h) (Or.inl ⟨by rfl, ?y390⟩) (by assumption) ?r390
                    case y390 => (intro w hSw; (try dsimp only at hSw); (try simp only [List.getElem_toArray, List.getElem_cons_zero, List.getElem_cons_succ]); go_simp; first | done | with_reducible rfl)
                    (try simp only [Act.put, List.getElem_toArray, List.getElem_cons_zero, List.getElem_cons_succ, List.setIfInBounds_toArray, List.set_cons_zero, List.set_cons_succ])
                    refine wpAnyH_take (i := 17) (v := ?v391) rfl (by kernel_rfl) (by kernel_rfl) (by kernel_rfl) (fun _ _ _ h => h) (Or.inl ⟨by rfl, ?y391⟩) (by assumption) ?r391
                    case y391 => (intro w hSw; (try dsimp only at hSw); (try simp only [List.getElem_toArray, List.getElem_cons_zero, List.getElem_cons_succ]); go_simp; first | done | with_reducible rfl)
                    (try simp only [Act.put, List.getElem_toArray, List.getElem_cons_zero, List.getElem_cons_succ, List.setIfInBounds_toArray, List.set_cons_zero, List.set_cons_succ])
                    refine wpAnyH_take (i := 18) (v := ?v392) rfl (by kernel_rfl) (by kernel_rfl) (by kernel_rfl) (fun _ _ _ h => h) (Or.inl ⟨by rfl, ?y392⟩) (by assumption) ?r392
                    case y392 => (intro w hSw; (try dsimp only at hSw); (try simp only [List.getElem_toArray, List.getElem_cons_zero, List.getElem_cons_succ]); go_simp; first | done | with_reducible rfl)
                    (try simp only [Act.put, List.getElem_toArray, List.getElem_cons_zero, List.getElem_cons_succ, List.setIfInBounds_toArray, List.set_cons_zero, List.set_cons_succ])
                    refine wpAnyH_take (i := 19) (v := ?v393) rfl (by kernel_rfl) (by kernel_rfl) (by kernel_rfl) (fun _ _ _ h => h) (Or.inl ⟨by rfl, ?y393⟩) (by assumption) ?r393
                    case y393 => (intro w hSw; (try dsimp only at hSw); (try simp only [List.getElem_toArray, List.getElem_cons_zero, List.getElem_cons_succ]); go_simp; first | done | with_reducible rfl)
                    (try simp only [Act.put, List.getElem_toArray, List.getElem_cons_zero, List.getElem_cons_succ, List.setIfInBounds_toArray, List.set_cons_zero, List.set_cons_succ])
                    refine wpAnyH_take (i := 20) (v := ?v394) rfl (by kernel_rfl) (by kernel_rfl) (by kernel_rfl) (fun _ _ _ h => h) (Or.inl ⟨by rfl, ?y394⟩) (by assumption) ?r394
                    case y394 => (intro w hSw; (try dsimp only at hSw); (try simp only [List.getElem_toArray, List.getElem_cons_zero, List.getElem_cons_succ]); go_simp; first | done | with_reducible rfl)
                    (try simp only [Act.put, List.getElem_toArray, List.getElem_cons_zero, List.getElem_cons_succ, List.setIfInBounds_toArray, List.set_cons_zero, List.set_cons_succ])
                    refine wpAnyH_take (i := 21) (v := ?v395) rfl (by kernel_rfl) (by kernel_rfl) (by kernel_rfl) (fun _ _ _ h => h) (Or.inl ⟨by rfl, ?y395⟩) (by assumption) ?r395
                    case y395 => (intro w hSw; (try dsimp only at hSw); (try simp only [List.getElem_toArray, List.getElem_cons_zero, List.getElem_cons_succ]); go_simp; first | done | with_reducible rfl)
                    (try simp only [Act.put, List.getElem_toArray, List.getElem_cons_zero, List.getElem_cons_succ, List.setIfInBounds_toArray, List.set_cons_zero, List.set_cons_succ])
                    refine wpAnyH_take (i := 22) (v := ?v396) rfl (by kernel_rfl) (by kernel_rfl) (by kernel_rfl) (fun _ _ _ h => h) (Or.inl ⟨by rfl, ?y396⟩) (by assumption) ?r396
                    case y396 => (intro w hSw; (try dsimp only at hSw); (try simp only [List.getElem_toArray, List.getElem_cons_zero, List.getElem_cons_succ]); go_simp; first | done | with_reducible rfl)
                    (try simp only [Act.put, List.getElem_toArray, List.getElem_cons_zero, List.getElem_cons_succ, List.setIfInBounds_toArray, List.set_cons_zero, List.set_cons_succ])
                    refine wpAnyH_take (i := 23) (v := ?v397) rfl (by kernel_rfl) (by kernel_rfl) (by kernel_rfl) (fun _ _ _ h => h) (Or.inl ⟨by rfl, ?y397⟩) (by assumption) ?r397
                    case y397 => (intro w hSw; (try dsimp only at hSw); (try simp only [List.getElem_toArray, List.getElem_cons_zero, List.getElem_cons_succ]); go_simp; first | done | with_reducible rfl)
                    (try simp only [Act.put, List.getElem_toArray, List.getElem_cons_zero, List.getElem_cons_succ, List.setIfInBounds_toArray, List.set_cons_zero, List.set_cons_succ])
                    refine wpAnyH_take (i := 24) (v := ?v398) rfl (by kernel_rfl) (by kernel_rfl) (by kernel_rfl) (fun _ _ _ h => h) (Or.inl ⟨by rfl, ?y398⟩) (by assumption) ?r398
                    case y398 => (intro w hSw; (try dsimp only at hSw); (try simp only [List.getElem_toArray, List.getElem_cons_zero, List.getElem_cons_succ]); go_simp; first | done | with_reducible rfl)
                    (try simp only [Act.put, List.getElem_toArray, List.getElem_cons_zero, List.getElem_cons_succ, List.setIfInBounds_toArray, List.set_cons_zero, List.set_cons_succ])
                    refine wpAnyH_take (i := 25) (v := ?v399) rfl (by kernel_rfl) (by kernel_rfl) (by kernel_rfl) (fun _ _ _ h => h) (Or.inl ⟨by rfl, ?y399⟩) (by assumption) ?r399
                    case y399 => (intro w hSw; (try dsimp only at hSw); (try simp only [List.getElem_toArray, List.getElem_cons_zero, List.getElem_cons_succ]); go_simp; first | done | with_reducible rfl)
                    (try simp only [Act.put, List.getElem_toArray, List.getElem_cons_zero, List.getElem_cons_succ, List.setIfInBounds_toArray, List.set_cons_zero, List.set_cons_succ])
                    refine wpAnyH_take (i := 26) (v := ?v400) rfl (by kernel_rfl) (by kernel_rfl) (by kernel_rfl) (fun _ _ _ h => h) (Or.inl ⟨by rfl, ?y400⟩) (by assumption) ?r400
                    case y400 => (intro w hSw; (try dsimp only at hSw); (try simp only [List.getElem_toArray, List.getElem_cons_zero, List.getElem_cons_succ]); go_simp; first | done | with_reducible rfl)
                    (try simp only [Act.put, List.getElem_toArray, List.getElem_cons_zero, List.getElem_cons_succ, List.setIfInBounds_toArray, List.set_cons_zero, List.set_cons_succ])
                    refine wpAnyH_take (i := 27) (v := ?v401) rfl (by kernel_rfl) (by kernel_rfl) (by kernel_rfl) (fun _ _ _ h => h) (Or.inl ⟨by rfl, ?y401⟩) (by assumption) ?r401
                    case y401 => (intro w hSw; (try dsimp only at hSw); (try simp only [List.getElem_toArray, List.getElem_cons_zero, List.getElem_cons_succ]); go_simp; first | done | with_reducible rfl)
                    (try simp only [Act.put, List.getElem_toArray, List.getElem_cons_zero, List.getElem_cons_succ, List.setIfInBounds_toArray, List.set_cons_zero, List.set_cons_succ])
                    refine wpAnyH_take (i := 28) (v := ?v402) rfl (by kernel_rfl) (by kernel_rfl) (by kernel_rfl) (fun _ _ _ h => h) (Or.inl ⟨by rfl, ?y402⟩) (by assumption) ?r402
                    case y402 => (intro w hSw; (try dsimp only at hSw); (try simp only [List.getElem_toArray, List.getElem_cons_zero, List.getElem_cons_succ]); go_simp; first | done | with_reducible rfl)
                    (try simp only [Act.put, List.getElem_toArray, List.getElem_cons_zero, List.getElem_cons_succ, List.setIfInBounds_toArray, List.set_cons_zero, List.set_cons_succ])
                    refine wpAnyH_take (i := 29) (v := ?v403) rfl (by kernel_rfl) (by kernel_rfl) (by kernel_rfl) (fun _ _ _ h => h) (Or.inl ⟨by rfl, ?y403⟩) (by assumption) ?r403
                    case y403 => (intro w hSw; (try dsimp only at hSw); (try simp only [List.getElem_toArray, List.getElem_cons_zero, List.getElem_cons_succ]); go_simp; first | done | with_reducible rfl)
                    (try simp only [Act.put, List.getElem_toArray, List.getElem_cons_zero, List.getElem_cons_succ, List.setIfInBounds_toArray, List.set_cons_zero, List.set_cons_succ])
                    refine wpAnyH_ready (rs := [30]) (by kernel_rfl) (by simp) ?_
                    refine AllReadyH.cons rfl (fun K hK => ?_) ?_
                    · (try simp only [List.getElem_toArray, List.getElem_cons_zero, List.getElem_cons_succ])
                      go_simp
                      have hk := And.right ‹_ ∧ Kp wr _›
                      refine (TR.out _ hk).mono ?_
                      rintro e v2 ⟨A9, k9, c9, B9, j9, e9, rfl, hk9, hj9, hW9, hX9, -, -, hbx⟩
                      have hp := Kp.trans hk hbx
                      have r9 : RQ v2 (rv) A9 k9 c9 B9 j9 e9 := ⟨hk9, hj9, hW9, hX9⟩
                      clear hk hbx hk9 hj9 hW9 hX9
                      (try (go_wp2_with fail))
                      refine hK.out _ _ ?k405 (fun hHeld405 => ?n405)
                      case k405 => ((try dsimp only); first | (with_reducible refine HS.out _ ?_; with_reducible assumption) | (with_reducible refine HS.out _ (Kp.drew ?_); with_reducible assumption) | (with_reducible refine' HS.out _ (Kp.drew (And.right ?_)); rotate_left; with_reducible assumption))
                      clear hK K
                      (try simp only [Act.put, List.getElem_toArray, List.getElem_cons_zero, List.getElem_cons_succ, List.setIfInBounds_toArray, List.set_cons_zero, List.set_cons_succ])
                      refine wpAnyH_ready (rs := [31]) (by kernel_rfl) (by simp) ?_
                      refine AllReadyH.cons rfl (fun K hK => ?_) ?_
                      · (try simp only [List.getElem_toArray, List.getElem_cons_zero, List.getElem_cons_succ])
                        go_simp
                        have hk := And.right ‹_ ∧ Kp wr _›
                        refine (TC.out _ hk _ _ _ _ _ _ r9).mono ?_
                        rintro e v3 ⟨rfl, hbx⟩
                        have hp := Kp.trans hk hbx
                        clear hk hbx r9
                        (try (go_wp2_with fail))
                        refine hK.out _ _ ?k407 (fun hHeld407 => ?n407)
                        case k407 => ((try dsimp only); first | (with_reducible refine HS.out _ ?_; with_reducible assumption) | (with_reducible refine HS.out _ (Kp.drew ?_); with_reducible assumption) | (with_reducible refine' HS.out _ (Kp.drew (And.right ?_)); rotate_left; with_reducible assumption))
                        clear hK K
                        (try simp only [Act.put, List.getElem_toArray, List.getElem_cons_zero, List.getElem_cons_succ, List.setIfInBounds_toArray, List.set_cons_zero, List.set_cons_succ])
                        refine wpAnyH_take (i := 32) (v := ?v408) rfl (by kernel_rfl) (by kernel_rfl) (by kernel_rfl) (fun _ _ _ h => h) (Or.inl ⟨by rfl, ?y408⟩) (by assumption) ?r408
                        case y408 => (intro w hSw; (try dsimp only at hSw); (try simp only [List.getElem_toArray, List.getElem_cons_zero, List.getElem_cons_succ]); go_simp; first | done | with_reducible rfl)
                        (try simp only [Act.put, List.getElem_toArray, List.getElem_cons_zero, List.getElem_cons_succ, List.setIfInBounds_toArray, List.set_cons_zero, List.set_cons_succ])
                        refine wpAnyH_take (i := 33) (v := ?v409) rfl (by kernel_rfl) (by kernel_rfl) (by kernel_rfl) (fun _ _ _ h => h) (Or.inl ⟨by rfl, ?y409⟩) (by assumption) ?r409
                        case y409 => (intro w hSw; (try dsimp only at hSw); (try simp only [List.getElem_toArray, List.getElem_cons_zero, List.getElem_cons_succ]); go_simp; first | done | with_reducible rfl)
                        (try simp only [Act.put, List.getElem_toArray, List.getElem_cons_zero, List.getElem_cons_succ, List.setIfInBounds_toArray, List.set_cons_zero, List.set_cons_succ])
                        refine wpAnyH_done (by kernel_rfl) ?_ _
                        have HF := Lib.hid (HWR2.out.trans (Below.mono hp HWR2.out.size))
                        cases cb
                        · have hk6 := hp
                          clear hp HF
                          try (go_wp2_with fail)
                          have HALL := Lib.hid (HNEXT.out (by first | trivial | assumption | rfl) (by first | trivial | assumption | rfl))
                          have HS25 := Lib.hid (show ∀ w', Kp wr w' → (w'.cell? ⟨gs2, 0, none⟩ = some (.bool (decide (sf.num < 0))) ∧ w'.cell? ⟨gs2, 1, none⟩ = some (.slice AS ks cs) ∧ w'.cell? ⟨gs2, 2, none⟩ = some (.bool false) ∧ w'.cell? ⟨gs2, 3, none⟩ = some (.slice BS js ds) ∧ w'.cell? ⟨gs2 + 1, 0, none⟩ = some (.bool (decide (sh.num < 0))) ∧ w'.cell? ⟨gs2 + 1, 1, none⟩ = some (.slice AC kc cc) ∧ w'.cell? ⟨gs2 + 1, 2, none⟩ = some (.bool false) ∧ w'.cell? ⟨gs2 + 1, 3, none⟩ = some (.slice BC jc dc) ∧ w'.cell? ⟨b3, o3 + k * 4, none⟩ = some (.bool rn) ∧ w'.cell? ⟨b3, o3 + k * 4 + 1, none⟩ = some (.slice rA rk rc) ∧ w'.cell? ⟨b3, o3 + k * 4 + 2, none⟩ = some (.bool rn') ∧ w'.cell? ⟨b3, o3 + k * 4 + 3, none⟩ = some (.slice rA' rk' rc') ∧ w'.cell? ⟨b, o + k * 9 + 7, none⟩ = some (.int .i64 spin)) ∧ Kp wr w' from fun w' hk => ⟨⟨(Below.cell hk (p := ⟨gs2, _, none⟩) ult).trans u0, (Below.cell hk (p := ⟨gs2, _, none⟩) ult).trans u1, (Below.cell hk (p := ⟨gs2, _, none⟩) ult).trans u2, (Below.cell hk (p := ⟨gs2, _, none⟩) ult).trans u3, (Below.cell hk (p := ⟨gs2 + 1, _, none⟩) ylt).trans y0, (Below.cell hk (p := ⟨gs2 + 1, _, none⟩) ylt).trans y1, (Below.cell hk (p := ⟨gs2 + 1, _, none⟩) ylt).trans y2, (Below.cell hk (p := ⟨gs2 + 1, _, none⟩) ylt).trans y3, (Below.cell hk (p := ⟨b3, _, none⟩) hbr3).trans x0, (Below.cell hk (p := ⟨b3, _, none⟩) hbr3).trans x1, (Below.cell hk (p := ⟨b3, _, none⟩) hbr3).trans x2, (Below.cell hk (p := ⟨b3, _, none⟩) hbr3).trans x3, (Below.cell hk (p := ⟨b, _, none⟩) hbr).trans f8⟩, hk⟩)
                          refine wp_region_front 19 2 _ (fun w' => (w'.cell? ⟨gs2, 0, none⟩ = some (.bool (decide (sf.num < 0))) ∧ w'.cell? ⟨gs2, 1, none⟩ = some (.slice AS ks cs) ∧ w'.cell? ⟨gs2, 2, none⟩ = some (.bool false) ∧ w'.cell? ⟨gs2, 3, none⟩ = some (.slice BS js ds) ∧ w'.cell? ⟨gs2 + 1, 0, none⟩ = some (.bool (decide (sh.num < 0))) ∧ w'.cell? ⟨gs2 + 1, 1, none⟩ = some (.slice AC kc cc) ∧ w'.cell? ⟨gs2 + 1, 2, none⟩ = some (.bool false) ∧ w'.cell? ⟨gs2 + 1, 3, none⟩ = some (.slice BC jc dc) ∧ w'.cell? ⟨b3, o3 + k * 4, none⟩ = some (.bool rn) ∧ w'.cell? ⟨b3, o3 + k * 4 + 1, none⟩ = some (.slice rA rk rc) ∧ w'.cell? ⟨b3, o3 + k * 4 + 2, none⟩ = some (.bool rn') ∧ w'.cell? ⟨b3, o3 + k * 4 + 3, none⟩ = some (.slice rA' rk' rc') ∧ w'.cell? ⟨b, o + k * 9 + 7, none⟩ = some (.int .i64 spin)) ∧ Kp wr w') (by kernel_rfl) (by kernel_rfl) rfl (HS25.out _ (Kp.drew hk6)) (fun hHeld => ?_)
                          simp only [List.toList_toArray, List.take_succ_cons, List.take_zero]
                          refine wpAnyH_take (i := 0) (v := ?v340) rfl (by kernel_rfl) (by kernel_rfl) (by kernel_rfl) (fun _ _ _ h => h) (Or.inl ⟨by rfl, ?y340⟩) (by assumption) ?r340
                          case y340 => (intro w hSw; (try dsimp only at hSw); (try simp only [List.getElem_toArray, List.getElem_cons_zero, List.getElem_cons_succ]); go_simp; first | done | with_reducible rfl)
                          (try simp only [Act.put, List.getElem_toArray, List.getElem_cons_zero, List.getElem_cons_succ, List.setIfInBounds_toArray, List.set_cons_zero, List.set_cons_succ])
                          refine wpAnyH_take (i := 1) (v := ?v341) rfl (by kernel_rfl) (by kernel_rfl) (by kernel_rfl) (fun _ _ _ h => h) (Or.inl ⟨by rfl, ?y341⟩) (by assumption) ?r341
                          case y341 => (intro w hSw; (try dsimp only at hSw); (try simp only [List.getElem_toArray, List.getElem_cons_zero, List.getElem_cons_succ]); go_simp; first | done | with_reducible rfl)
                          (try simp only [Act.put, List.getElem_toArray, List.getElem_cons_zero, List.getElem_cons_succ, List.setIfInBounds_toArray, List.set_cons_zero, List.set_cons_succ])
                          refine wpAnyH_take (i := 2) (v := ?v342) rfl (by kernel_rfl) (by kernel_rfl) (by kernel_rfl) (fun _ _ _ h => h) (Or.inl ⟨by rfl, ?y342⟩) (by assumption) ?r342
                          case y342 => (intro w hSw; (try dsimp only at hSw); (try simp only [List.getElem_toArray, List.getElem_cons_zero, List.getElem_cons_succ]); go_simp; first | done | with_reducible rfl)
                          (try simp only [Act.put, List.getElem_toArray, List.getElem_cons_zero, List.getElem_cons_succ, List.setIfInBounds_toArray, List.set_cons_zero, List.set_cons_succ])
                          refine wpAnyH_take (i := 3) (v := ?v343) rfl (by kernel_rfl) (by kernel_rfl) (by kernel_rfl) (fun _ _ _ h => h) (Or.inl ⟨by rfl, ?y343⟩) (by assumption) ?r343
                          case y343 => (intro w hSw; (try dsimp only at hSw); (try simp only [List.getElem_toArray, List.getElem_cons_zero, List.getElem_cons_succ]); go_simp; first | done | with_reducible rfl)
                          (try simp only [Act.put, List.getElem_toArray, List.getElem_cons_zero, List.getElem_cons_succ, List.setIfInBounds_toArray, List.set_cons_zero, List.set_cons_succ])
                          refine wpAnyH_take (i := 4) (v := ?v344) rfl (by kernel_rfl) (by kernel_rfl) (by kernel_rfl) (fun _ _ _ h => h) (Or.inl ⟨by rfl, ?y344⟩) (by assumption) ?r344
                          case y344 => (intro w hSw; (try dsimp only at hSw); (try simp only [List.getElem_toArray, List.getElem_cons_zero, List.getElem_cons_succ]); go_simp; first | done | with_reducible rfl)
                          (try simp only [Act.put, List.getElem_toArray, List.getElem_cons_zero, List.getElem_cons_succ, List.setIfInBounds_toArray, List.set_cons_zero, List.set_cons_succ])
                          refine wpAnyH_take (i := 6) (v := ?v346) rfl (by kernel_rfl) (by kernel_rfl) (by kernel_rfl) (fun _ _ _ h => h) (Or.inl ⟨by rfl, ?y346⟩) (by assumption) ?r346
                          case y346 => (intro w hSw; (try dsimp only at hSw); (try simp only [List.getElem_toArray, List.getElem_cons_zero, List.getElem_cons_succ]); go_simp; first | done | with_reducible rfl)
                          (try simp only [Act.put, List.getElem_toArray, List.getElem_cons_zero, List.getElem_cons_succ, List.setIfInBounds_toArray, List.set_cons_zero, List.set_cons_succ])
                          refine wpAnyH_take (i := 7) (v := ?v348) rfl (by kernel_rfl) (by kernel_rfl) (by kernel_rfl) (fun _ _ _ h => h) (Or.inl ⟨by rfl, ?y348⟩) (by assumption) ?r348
                          case y348 => (intro w hSw; (try dsimp only at hSw); (try simp only [List.getElem_toArray, List.getElem_cons_zero, List.getElem_cons_succ]); go_simp; first | done | with_reducible rfl)
                          (try simp only [Act.put, List.getElem_toArray, List.getElem_cons_zero, List.getElem_cons_succ, List.setIfInBounds_toArray, List.set_cons_zero, List.set_cons_succ])
                          refine wpAnyH_take (i := 8) (v := ?v350) rfl (by kernel_rfl) (by kernel_rfl) (by kernel_rfl) (fun _ _ _ h => h) (Or.inl ⟨by rfl, ?y350⟩) (by assumption) ?r350
                          case y350 => (intro w hSw; (try dsimp only at hSw); (try simp only [List.getElem_toArray, List.getElem_cons_zero, List.getElem_cons_succ]); go_simp; first | done | with_reducible rfl)
                          (try simp only [Act.put, List.getElem_toArray, List.getElem_cons_zero, List.getElem_cons_succ, List.setIfInBounds_toArray, List.set_cons_zero, List.set_cons_succ])
                          refine wpAnyH_take (i := 9) (v := ?v352) rfl (by kernel_rfl) (by kernel_rfl) (by kernel_rfl) (fun _ _ _ h => h) (Or.inl ⟨by rfl, ?y352⟩) (by assumption) ?r352
                          case y352 => (intro w hSw; (try dsimp only at hSw); (try simp only [List.getElem_toArray, List.getElem_cons_zero, List.getElem_cons_succ]); go_simp; first | done | with_reducible rfl)
                          (try simp only [Act.put, List.getElem_toArray, List.getElem_cons_zero, List.getElem_cons_succ, List.setIfInBounds_toArray, List.set_cons_zero, List.set_cons_succ])
                          refine wpAnyH_take (i := 10) (v := ?v354) rfl (by kernel_rfl) (by kernel_rfl) (by kernel_rfl) (fun _ _ _ h => h) (Or.inl ⟨by rfl, ?y354⟩) (by assumption) ?r354
                          case y354 => (intro w hSw; (try dsimp only at hSw); (try simp only [List.getElem_toArray, List.getElem_cons_zero, List.getElem_cons_succ]); go_simp; first | done | with_reducible rfl)
                          (try simp only [Act.put, List.getElem_toArray, List.getElem_cons_zero, List.getElem_cons_succ, List.setIfInBounds_toArray, List.set_cons_zero, List.set_cons_succ])
                          refine wpAnyH_take (i := 11) (v := ?v356) rfl (by kernel_rfl) (by kernel_rfl) (by kernel_rfl) (fun _ _ _ h => h) (Or.inl ⟨by rfl, ?y356⟩) (by assumption) ?r356
                          case y356 => (intro w hSw; (try dsimp only at hSw); (try simp only [List.getElem_toArray, List.getElem_cons_zero, List.getElem_cons_succ]); go_simp; first | done | with_reducible rfl)
                          (try simp only [Act.put, List.getElem_toArray, List.getElem_cons_zero, List.getElem_cons_succ, List.setIfInBounds_toArray, List.set_cons_zero, List.set_cons_succ])
                          refine wpAnyH_take (i := 12) (v := ?v358) rfl (by kernel_rfl) (by kernel_rfl) (by kernel_rfl) (fun _ _ _ h => h) (Or.inl ⟨by rfl, ?y358⟩) (by assumption) ?r358
                          case y358 => (intro w hSw; (try dsimp only at hSw); (try simp only [List.getElem_toArray, List.getElem_cons_zero, List.getElem_cons_succ]); go_simp; first | done | with_reducible rfl)
                          (try simp only [Act.put, List.getElem_toArray, List.getElem_cons_zero, List.getElem_cons_succ, List.setIfInBounds_toArray, List.set_cons_zero, List.set_cons_succ])
                          refine wpAnyH_take (i := 13) (v := ?v360) rfl (by kernel_rfl) (by kernel_rfl) (by kernel_rfl) (fun _ _ _ h => h) (Or.inl ⟨by rfl, ?y360⟩) (by assumption) ?r360
                          case y360 => (intro w hSw; (try dsimp only at hSw); (try simp only [List.getElem_toArray, List.getElem_cons_zero, List.getElem_cons_succ]); go_simp; first | done | with_reducible rfl)
                          (try simp only [Act.put, List.getElem_toArray, List.getElem_cons_zero, List.getElem_cons_succ, List.setIfInBounds_toArray, List.set_cons_zero, List.set_cons_succ])
                          refine wpAnyH_take (i := 14) (v := ?v362) rfl (by kernel_rfl) (by kernel_rfl) (by kernel_rfl) (fun _ _ _ h => h) (Or.inl ⟨by rfl, ?y362⟩) (by assumption) ?r362
                          case y362 => (intro w hSw; (try dsimp only at hSw); (try simp only [List.getElem_toArray, List.getElem_cons_zero, List.getElem_cons_succ]); go_simp; first | done | with_reducible rfl)
                          (try simp only [Act.put, List.getElem_toArray, List.getElem_cons_zero, List.getElem_cons_succ, List.setIfInBounds_toArray, List.set_cons_zero, List.set_cons_succ])
                          refine wpAnyH_take (i := 15) (v := ?v364) rfl (by kernel_rfl) (by kernel_rfl) (by kernel_rfl) (fun _ _ _ h => h) (Or.inl ⟨by rfl, ?y364⟩) (by assumption) ?r364
                          case y364 => (intro w hSw; (try dsimp only at hSw); (try simp only [List.getElem_toArray, List.getElem_cons_zero, List.getElem_cons_succ]); go_simp; first | done | with_reducible rfl)
                          (try simp only [Act.put, List.getElem_toArray, List.getElem_cons_zero, List.getElem_cons_succ, List.setIfInBounds_toArray, List.set_cons_zero, List.set_cons_succ])
                          refine wpAnyH_ready (rs := [5]) (by kernel_rfl) (by simp) ?_
                          refine AllReadyH.cons rfl (fun K hK => ?_) ?_
                          · (try simp only [List.getElem_toArray, List.getElem_cons_zero, List.getElem_cons_succ])
                            go_simp
                            have hk := And.right ‹_ ∧ Kp wr _›
                            refine (TA1.out _ hk).mono ?_
                            rintro e v5 ⟨P1, p1, p2, P2, p3, p4, rfl, hk9, hj9, hW9, hX9, -, -, hbx⟩
                            have hp := Kp.trans hk hbx
                            have r5 : RQ v5 (sf2) P1 p1 p2 P2 p3 p4 := ⟨hk9, hj9, hW9, hX9⟩
                            clear hk hbx hk9 hj9 hW9 hX9
                            (try (go_wp2_with fail))
                            refine hK.out _ _ ?k366 (fun hHeld366 => ?n366)
                            case k366 => ((try dsimp only); first | (with_reducible refine HS25.out _ ?_; with_reducible assumption) | (with_reducible refine HS25.out _ (Kp.drew ?_); with_reducible assumption) | (with_reducible refine' HS25.out _ (Kp.drew (And.right ?_)); rotate_left; with_reducible assumption))
                            clear hK K
                            (try simp only [Act.put, List.getElem_toArray, List.getElem_cons_zero, List.getElem_cons_succ, List.setIfInBounds_toArray, List.set_cons_zero, List.set_cons_succ])
                            refine wpAnyH_ready (rs := [16]) (by kernel_rfl) (by simp) ?_
                            refine AllReadyH.cons rfl (fun K hK => ?_) ?_
                            · (try simp only [List.getElem_toArray, List.getElem_cons_zero, List.getElem_cons_succ])
                              go_simp
                              have hk := And.right ‹_ ∧ Kp wr _›
                              refine (TFI.out _).mono ?_
                              rintro e v6 ⟨P3, p5, p6, P4, p7, p8, rfl, hk9, hj9, hW9, hX9, -, -, hbx⟩
                              have hp := Kp.trans hk hbx
                              have r6 : RQ v6 (fs) P3 p5 p6 P4 p7 p8 := ⟨hk9, hj9, hW9, hX9⟩
                              have r5 := RQ.below r5 hbx
                              clear hk hbx hk9 hj9 hW9 hX9
                              (try (go_wp2_with fail))
                              refine hK.out _ _ ?k368 (fun hHeld368 => ?n368)
                              case k368 => ((try dsimp only); first | (with_reducible refine HS25.out _ ?_; with_reducible assumption) | (with_reducible refine HS25.out _ (Kp.drew ?_); with_reducible assumption) | (with_reducible refine' HS25.out _ (Kp.drew (And.right ?_)); rotate_left; with_reducible assumption))
                              clear hK K
                              (try simp only [Act.put, List.getElem_toArray, List.getElem_cons_zero, List.getElem_cons_succ, List.setIfInBounds_toArray, List.set_cons_zero, List.set_cons_succ])
                              refine wpAnyH_ready (rs := [17]) (by kernel_rfl) (by simp) ?_
                              refine AllReadyH.cons rfl (fun K hK => ?_) ?_
                              · (try simp only [List.getElem_toArray, List.getElem_cons_zero, List.getElem_cons_succ])
                                go_simp
                                have hk := And.right ‹_ ∧ Kp wr _›
                                refine (TM.out _ hk _ _ _ _ _ _ r6).mono ?_
                                rintro e v7 ⟨P3, p5, p6, P4, p7, p8, rfl, hk9, hj9, hW9, hX9, -, -, hbx⟩
                                have hp := Kp.trans hk hbx
                                have r6 : RQ v7 (tm) P3 p5 p6 P4 p7 p8 := ⟨hk9, hj9, hW9, hX9⟩
                                have r5 := RQ.below r5 hbx
                                clear hk hbx hk9 hj9 hW9 hX9
                                (try (go_wp2_with fail))
                                refine hK.out _ _ ?k370 (fun hHeld370 => ?n370)
                                case k370 => ((try dsimp only); first | (with_reducible refine HS25.out _ ?_; with_reducible assumption) | (with_reducible refine HS25.out _ (Kp.drew ?_); with_reducible assumption) | (with_reducible refine' HS25.out _ (Kp.drew (And.right ?_)); rotate_left; with_reducible assumption))
                                clear hK K
                                (try simp only [Act.put, List.getElem_toArray, List.getElem_cons_zero, List.getElem_cons_succ, List.setIfInBounds_toArray, List.set_cons_zero, List.set_cons_succ])
                                refine wpAnyH_ready (rs := [18]) (by kernel_rfl) (by simp) ?_
                                refine AllReadyH.cons rfl (fun K hK => ?_) ?_
                                · (try simp only [List.getElem_toArray, List.getElem_cons_zero, List.getElem_cons_succ])
                                  go_simp
                                  have hk := And.right ‹_ ∧ Kp wr _›
                                  refine (TA2.out _ hk _ _ _ _ _ _ r6).mono ?_
                                  rintro e v8 ⟨P5, p9, p10, P6, p11, p12, rfl, hk9, hj9, hW9, hX9, -, -, hbx⟩
                                  have hp := Kp.trans hk hbx
                                  have r8 : RQ v8 (sh2) P5 p9 p10 P6 p11 p12 := ⟨hk9, hj9, hW9, hX9⟩
                                  have r5 := RQ.below r5 hbx
                                  clear hk hbx hk9 hj9 hW9 hX9
                                  (try (go_wp2_with fail))
                                  refine hK.out _ _ ?k372 (fun hHeld372 => ?n372)
                                  case k372 => ((try dsimp only); first | (with_reducible refine HS25.out _ ?_; with_reducible assumption) | (with_reducible refine HS25.out _ (Kp.drew ?_); with_reducible assumption) | (with_reducible refine' HS25.out _ (Kp.drew (And.right ?_)); rotate_left; with_reducible assumption))
                                  clear hK K
                                  (try simp only [Act.put, List.getElem_toArray, List.getElem_cons_zero, List.getElem_cons_succ, List.setIfInBounds_toArray, List.set_cons_zero, List.set_cons_succ])
                                  refine wpAnyH_done (by kernel_rfl) ?_ _
                                  unfold Qfr
                                  dsimp only
                                  have b15 := Kp.blk hp HB15r.out
                                  have b16 := Kp.blk hp HB16r.out
                                  have hbl := Below.trans HBL.out (Below.mono hp HGL.out)
                                  refine wpAny_ready (rs := [19]) (by kernel_rfl) (by simp) ?_
                                  refine AllReady.cons rfl (fun K hK => ?_) AllReady.nil
                                  (try simp only [List.getElem_toArray, List.getElem_cons_zero, List.getElem_cons_succ])
                                  obtain ⟨_, _, _, _, f10, f11, f12, f13⟩ := b15.four
                                  go_simp
                                  refine hK _ _ ?_
                                  clear hK K
                                  (try simp only [Act.put, List.getElem_toArray, List.getElem_cons_zero, List.getElem_cons_succ, List.setIfInBounds_toArray, List.set_cons_zero, List.set_cons_succ])
                                  generalize hv : World.setCell (World.setCell (World.setCell (World.setCell _ _ _) _ _) _ _) _ _ = v12
                                  have c15 := q_blk hv b15
                                  have c16 := q_far hv b16 (by omega)
                                  have r5 := q_rq hv b15 r5
                                  have r8 := q_rq hv b15 r8
                                  have hbl := q_below hv hbl (Nat.le_refl _)
                                  clear f10 f11 f12 f13 hv b15 b16 hp
                                  refine wpAny_ready (rs := [20]) (by kernel_rfl) (by simp) ?_
                                  refine AllReady.cons rfl (fun K hK => ?_) AllReady.nil
                                  (try simp only [List.getElem_toArray, List.getElem_cons_zero, List.getElem_cons_succ])
                                  obtain ⟨_, _, _, _, f10, f11, f12, f13⟩ := c16.four
                                  go_simp
                                  refine hK _ _ ?_
                                  clear hK K
                                  (try simp only [Act.put, List.getElem_toArray, List.getElem_cons_zero, List.getElem_cons_succ, List.setIfInBounds_toArray, List.set_cons_zero, List.set_cons_succ])
                                  generalize hv : World.setCell (World.setCell (World.setCell (World.setCell _ _ _) _ _) _ _) _ _ = v13
                                  have d16 := q_blk hv c16
                                  have d15 := q_far hv c15 (by omega)
                                  have r5 := q_rq hv c16 r5
                                  have r8 := q_rq hv c16 r8
                                  have hbl := q_below hv hbl (by omega)
                                  refine wpAny_done (by kernel_rfl) ?_ _
                                  have HF := Lib.hid (sm_next HSTF.out HSTH.out hbl d15 r5 d16 r8)
                                  clear f10 f11 f12 f13 hv c15 c16 d15 d16 r5 r6 r8 hbl
                                  go_wp2
                                  go_roundw
                                  case rel => exact ⟨k + 1, by omega, by first | rfl | go_num, HSQ.out, HALL.out, HF⟩
                                  case measure => simp [intOf]; omega
                                exact AllReadyH.nil
                              exact AllReadyH.nil
                            exact AllReadyH.nil
                          exact AllReadyH.nil
                        · clear hp
                          go_wp2
                          go_ret
                          exact ⟨rfl, HF.out⟩
                      exact AllReadyH.nil
                    exact AllReadyH.nil
                  exact AllReadyH.nil
                · refine wp_region_held_drew (S := fun w' => (w'.cell? ⟨b3, o3 + k * 4, none⟩ = some (.bool rn) ∧ w'.cell? ⟨b3, o3 + k * 4 + 1, none⟩ = some (.slice rA rk rc) ∧ w'.cell? ⟨b3, o3 + k * 4 + 2, none⟩ = some (.bool rn') ∧ w'.cell? ⟨b3, o3 + k * 4 + 3, none⟩ = some (.slice rA' rk' rc') ∧ w'.cell? ⟨b, o + k * 9, none⟩ = some (.int .i64 bus) ∧ w'.cell? ⟨b, o + k * 9 + 1, none⟩ = some (.int .i64 mn) ∧ w'.cell? ⟨b, o + k * 9 + 2, none⟩ = some (.slice A' n' c') ∧ w'.cell? ⟨b, o + k * 9 + 3, none⟩ = some (.int .i64 up) ∧ w'.cell? ⟨b, o + k * 9 + 4, none⟩ = some (.int .i64 dn) ∧ w'.cell? ⟨b, o + k * 9 + 5, none⟩ = some (.int .i64 start) ∧ w'.cell? ⟨b, o + k * 9 + 6, none⟩ = some (.int .i64 idle) ∧ w'.cell? ⟨b, o + k * 9 + 7, none⟩ = some (.int .i64 spin) ∧ w'.cell? ⟨b, o + k * 9 + 8, none⟩ = some (.int .i64 on) ∧ w'.cell? ⟨b', o' + k, none⟩ = some (.bool bk) ∧ w'.cell? ⟨b2, o2 + k * 4, none⟩ = some (.bool an) ∧ w'.cell? ⟨b2, o2 + k * 4 + 1, none⟩ = some (.slice aA ak ac) ∧ w'.cell? ⟨b2, o2 + k * 4 + 2, none⟩ = some (.bool an') ∧ w'.cell? ⟨b2, o2 + k * 4 + 3, none⟩ = some (.slice aA' ak' ac')) ∧ Kp wr w') (by kernel_rfl) (HS.out _ (Kp.drew hk0)) (fun hHeld => ?_)
                  refine wpAnyH_take (i := 0) (v := ?v410) rfl (by kernel_rfl) (by kernel_rfl) (by kernel_rfl) (fun _ _ _ h => h) (Or.inl ⟨by rfl, ?y410⟩) (by assumption) ?r410
                  case y410 => (intro w hSw; (try dsimp only at hSw); (try simp only [List.getElem_toArray, List.getElem_cons_zero, List.getElem_cons_succ]); go_simp; first | done | with_reducible rfl)
                  (try simp only [Act.put, List.getElem_toArray, List.getElem_cons_zero, List.getElem_cons_succ, List.setIfInBounds_toArray, List.set_cons_zero, List.set_cons_succ])
                  refine wpAnyH_take (i := 1) (v := ?v411) rfl (by kernel_rfl) (by kernel_rfl) (by kernel_rfl) (fun _ _ _ h => h) (Or.inl ⟨by rfl, ?y411⟩) (by assumption) ?r411
                  case y411 => (intro w hSw; (try dsimp only at hSw); (try simp only [List.getElem_toArray, List.getElem_cons_zero, List.getElem_cons_succ]); go_simp; first | done | with_reducible rfl)
                  (try simp only [Act.put, List.getElem_toArray, List.getElem_cons_zero, List.getElem_cons_succ, List.setIfInBounds_toArray, List.set_cons_zero, List.set_cons_succ])
                  refine wpAnyH_take (i := 2) (v := ?v412) rfl (by kernel_rfl) (by kernel_rfl) (by kernel_rfl) (fun _ _ _ h => h) (Or.inl ⟨by rfl, ?y412⟩) (by assumption) ?r412
                  case y412 => (intro w hSw; (try dsimp only at hSw); (try simp only [List.getElem_toArray, List.getElem_cons_zero, List.getElem_cons_succ]); go_simp; first | done | with_reducible rfl)
                  (try simp only [Act.put, List.getElem_toArray, List.getElem_cons_zero, List.getElem_cons_succ, List.setIfInBounds_toArray, List.set_cons_zero, List.set_cons_succ])
                  refine wpAnyH_take (i := 3) (v := ?v413) rfl (by kernel_rfl) (by kernel_rfl) (by kernel_rfl) (fun _ _ _ h => h) (Or.inl ⟨by rfl, ?y413⟩) (by assumption) ?r413
                  case y413 => (intro w hSw; (try dsimp only at hSw); (try simp only [List.getElem_toArray, List.getElem_cons_zero, List.getElem_cons_succ]); go_simp; first | done | with_reducible rfl)
                  (try simp only [Act.put, List.getElem_toArray, List.getElem_cons_zero, List.getElem_cons_succ, List.setIfInBounds_toArray, List.set_cons_zero, List.set_cons_succ])
                  refine wpAnyH_take (i := 4) (v := ?v414) rfl (by kernel_rfl) (by kernel_rfl) (by kernel_rfl) (fun _ _ _ h => h) (Or.inl ⟨by rfl, ?y414⟩) (by assumption) ?r414
                  case y414 => (intro w hSw; (try dsimp only at hSw); (try simp only [List.getElem_toArray, List.getElem_cons_zero, List.getElem_cons_succ]); go_simp; first | done | with_reducible rfl)
                  (try simp only [Act.put, List.getElem_toArray, List.getElem_cons_zero, List.getElem_cons_succ, List.setIfInBounds_toArray, List.set_cons_zero, List.set_cons_succ])
                  refine wpAnyH_take (i := 5) (v := ?v415) rfl (by kernel_rfl) (by kernel_rfl) (by kernel_rfl) (fun _ _ _ h => h) (Or.inl ⟨by rfl, ?y415⟩) (by assumption) ?r415
                  case y415 => (intro w hSw; (try dsimp only at hSw); (try simp only [List.getElem_toArray, List.getElem_cons_zero, List.getElem_cons_succ]); go_simp; first | done | with_reducible rfl)
                  (try simp only [Act.put, List.getElem_toArray, List.getElem_cons_zero, List.getElem_cons_succ, List.setIfInBounds_toArray, List.set_cons_zero, List.set_cons_succ])
                  refine wpAnyH_take (i := 6) (v := ?v416) rfl (by kernel_rfl) (by kernel_rfl) (by kernel_rfl) (fun _ _ _ h => h) (Or.inl ⟨by rfl, ?y416⟩) (by assumption) ?r416
                  case y416 => (intro w hSw; (try dsimp only at hSw); (try simp only [List.getElem_toArray, List.getElem_cons_zero, List.getElem_cons_succ]); go_simp; first | done | with_reducible rfl)
                  (try simp only [Act.put, List.getElem_toArray, List.getElem_cons_zero, List.getElem_cons_succ, List.setIfInBounds_toArray, List.set_cons_zero, List.set_cons_succ])
                  refine wpAnyH_take (i := 7) (v := ?v417) rfl (by kernel_rfl) (by kernel_rfl) (by kernel_rfl) (fun _ _ _ h => h) (Or.inl ⟨by rfl, ?y417⟩) (by assumption) ?r417
                  case y417 => (intro w hSw; (try dsimp only at hSw); (try simp only [List.getElem_toArray, List.getElem_cons_zero, List.getElem_cons_succ]); go_simp; first | done | with_reducible rfl)
                  (try simp only [Act.put, List.getElem_toArray, List.getElem_cons_zero, List.getElem_cons_succ, List.setIfInBounds_toArray, List.set_cons_zero, List.set_cons_succ])
                  refine wpAnyH_take (i := 8) (v := ?v418) rfl (by kernel_rfl) (by kernel_rfl) (by kernel_rfl) (fun _ _ _ h => h) (Or.inl ⟨by rfl, ?y418⟩) (by assumption) ?r418
                  case y418 => (intro w hSw; (try dsimp only at hSw); (try simp only [List.getElem_toArray, List.getElem_cons_zero, List.getElem_cons_succ]); go_simp; first | done | with_reducible rfl)
                  (try simp only [Act.put, List.getElem_toArray, List.getElem_cons_zero, List.getElem_cons_succ, List.setIfInBounds_toArray, List.set_cons_zero, List.set_cons_succ])
                  refine wpAnyH_take (i := 9) (v := ?v419) rfl (by kernel_rfl) (by kernel_rfl) (by kernel_rfl) (fun _ _ _ h => h) (Or.inl ⟨by rfl, ?y419⟩) (by assumption) ?r419
                  case y419 => (intro w hSw; (try dsimp only at hSw); (try simp only [List.getElem_toArray, List.getElem_cons_zero, List.getElem_cons_succ]); go_simp; first | done | with_reducible rfl)
                  (try simp only [Act.put, List.getElem_toArray, List.getElem_cons_zero, List.getElem_cons_succ, List.setIfInBounds_toArray, List.set_cons_zero, List.set_cons_succ])
                  refine wpAnyH_ready (rs := [10]) (by kernel_rfl) (by simp) ?_
                  refine AllReadyH.cons rfl (fun K hK => ?_) ?_
                  · (try simp only [List.getElem_toArray, List.getElem_cons_zero, List.getElem_cons_succ])
                    go_simp
                    have hk := And.right ‹_ ∧ Kp wr _›
                    refine (TS0.out _ hk).mono ?_
                    rintro e v1 ⟨rfl, hbx⟩
                    have hp := Kp.trans hk hbx
                    clear hk hbx 
                    (try (go_wp2_with fail))
                    refine hK.out _ _ ?k421 (fun hHeld421 => ?n421)
                    case k421 => ((try dsimp only); first | (with_reducible refine HS.out _ ?_; with_reducible assumption) | (with_reducible refine HS.out _ (Kp.drew ?_); with_reducible assumption) | (with_reducible refine' HS.out _ (Kp.drew (And.right ?_)); rotate_left; with_reducible assumption))
                    clear hK K
                    (try simp only [Act.put, List.getElem_toArray, List.getElem_cons_zero, List.getElem_cons_succ, List.setIfInBounds_toArray, List.set_cons_zero, List.set_cons_succ])
                    refine wpAnyH_take (i := 11) (v := ?v422) rfl (by kernel_rfl) (by kernel_rfl) (by kernel_rfl) (fun _ _ _ h => h) (Or.inl ⟨by rfl, ?y422⟩) (by assumption) ?r422
                    case y422 => (intro w hSw; (try dsimp only at hSw); (try simp only [List.getElem_toArray, List.getElem_cons_zero, List.getElem_cons_succ]); go_simp; first | done | with_reducible rfl)
                    (try simp only [Act.put, List.getElem_toArray, List.getElem_cons_zero, List.getElem_cons_succ, List.setIfInBounds_toArray, List.set_cons_zero, List.set_cons_succ])
                    refine wpAnyH_take (i := 12) (v := ?v423) rfl (by kernel_rfl) (by kernel_rfl) (by kernel_rfl) (fun _ _ _ h => h) (Or.inl ⟨by rfl, ?y423⟩) (by assumption) ?r423
                    case y423 => (intro w hSw; (try dsimp only at hSw); (try simp only [List.getElem_toArray, List.getElem_cons_zero, List.getElem_cons_succ]); go_simp; first | done | with_reducible rfl)
                    (try simp only [Act.put, List.getElem_toArray, List.getElem_cons_zero, List.getElem_cons_succ, List.setIfInBounds_toArray, List.set_cons_zero, List.set_cons_succ])
                    refine wpAnyH_take (i := 13) (v := ?v424) rfl (by kernel_rfl) (by kernel_rfl) (by kernel_rfl) (fun _ _ _ h => h) (Or.inl ⟨by rfl, ?y424⟩) (by assumption) ?r424
                    case y424 => (intro w hSw; (try dsimp only at hSw); (try simp only [List.getElem_toArray, List.getElem_cons_zero, List.getElem_cons_succ]); go_simp; first | done | with_reducible rfl)
                    (try simp only [Act.put, List.getElem_toArray, List.getElem_cons_zero, List.getElem_cons_succ, List.setIfInBounds_toArray, List.set_cons_zero, List.set_cons_succ])
                    refine wpAnyH_take (i := 14) (v := undef) rfl (by kernel_rfl) (by kernel_rfl) (by kernel_rfl) (fun _ _ _ h => h) (Or.inr ⟨by rfl, rfl⟩) (by assumption) ?_
                    (try simp only [Act.put, List.getElem_toArray, List.getElem_cons_zero, List.getElem_cons_succ, List.setIfInBounds_toArray, List.set_cons_zero, List.set_cons_succ])
                    refine wpAnyH_take (i := 15) (v := undef) rfl (by kernel_rfl) (by kernel_rfl) (by kernel_rfl) (fun _ _ _ h => h) (Or.inr ⟨by rfl, rfl⟩) (by assumption) ?_
                    (try simp only [Act.put, List.getElem_toArray, List.getElem_cons_zero, List.getElem_cons_succ, List.setIfInBounds_toArray, List.set_cons_zero, List.set_cons_succ])
                    refine wpAnyH_take (i := 16) (v := undef) rfl (by kernel_rfl) (by kernel_rfl) (by kernel_rfl) (fun _ _ _ h => h) (Or.inr ⟨by rfl, rfl⟩) (by assumption) ?_
                    (try simp only [Act.put, List.getElem_toArray, List.getElem_cons_zero, List.getElem_cons_succ, List.setIfInBounds_toArray, List.set_cons_zero, List.set_cons_succ])
                    refine wpAnyH_take (i := 17) (v := undef) rfl (by kernel_rfl) (by kernel_rfl) (by kernel_rfl) (fun _ _ _ h => h) (Or.inr ⟨by rfl, rfl⟩) (by assumption) ?_
                    (try simp only [Act.put, List.getElem_toArray, List.getElem_cons_zero, List.getElem_cons_succ, List.setIfInBounds_toArray, List.set_cons_zero, List.set_cons_succ])
                    refine wpAnyH_take (i := 18) (v := undef) rfl (by kernel_rfl) (by kernel_rfl) (by kernel_rfl) (fun _ _ _ h => h) (Or.inr ⟨by rfl, rfl⟩) (by assumption) ?_
                    (try simp only [Act.put, List.getElem_toArray, List.getElem_cons_zero, List.getElem_cons_succ, List.setIfInBounds_toArray, List.set_cons_zero, List.set_cons_succ])
                    refine wpAnyH_take (i := 19) (v := undef) rfl (by kernel_rfl) (by kernel_rfl) (by kernel_rfl) (fun _ _ _ h => h) (Or.inr ⟨by rfl, rfl⟩) (by assumption) ?_
                    (try simp only [Act.put, List.getElem_toArray, List.getElem_cons_zero, List.getElem_cons_succ, List.setIfInBounds_toArray, List.set_cons_zero, List.set_cons_succ])
                    refine wpAnyH_take (i := 20) (v := undef) rfl (by kernel_rfl) (by kernel_rfl) (by kernel_rfl) (fun _ _ _ h => h) (Or.inr ⟨by rfl, rfl⟩) (by assumption) ?_
                    (try simp only [Act.put, List.getElem_toArray, List.getElem_cons_zero, List.getElem_cons_succ, List.setIfInBounds_toArray, List.set_cons_zero, List.set_cons_succ])
                    refine wpAnyH_take (i := 21) (v := undef) rfl (by kernel_rfl) (by kernel_rfl) (by kernel_rfl) (fun _ _ _ h => h) (Or.inr ⟨by rfl, rfl⟩) (by assumption) ?_
                    (try simp only [Act.put, List.getElem_toArray, List.getElem_cons_zero, List.getElem_cons_succ, List.setIfInBounds_toArray, List.set_cons_zero, List.set_cons_succ])
                    refine wpAnyH_take (i := 22) (v := undef) rfl (by kernel_rfl) (by kernel_rfl) (by kernel_rfl) (fun _ _ _ h => h) (Or.inr ⟨by rfl, rfl⟩) (by assumption) ?_
                    (try simp only [Act.put, List.getElem_toArray, List.getElem_cons_zero, List.getElem_cons_succ, List.setIfInBounds_toArray, List.set_cons_zero, List.set_cons_succ])
                    refine wpAnyH_take (i := 23) (v := undef) rfl (by kernel_rfl) (by kernel_rfl) (by kernel_rfl) (fun _ _ _ h => h) (Or.inr ⟨by rfl, rfl⟩) (by assumption) ?_
                    (try simp only [Act.put, List.getElem_toArray, List.getElem_cons_zero, List.getElem_cons_succ, List.setIfInBounds_toArray, List.set_cons_zero, List.set_cons_succ])
                    refine wpAnyH_take (i := 24) (v := undef) rfl (by kernel_rfl) (by kernel_rfl) (by kernel_rfl) (fun _ _ _ h => h) (Or.inr ⟨by rfl, rfl⟩) (by assumption) ?_
                    (try simp only [Act.put, List.getElem_toArray, List.getElem_cons_zero, List.getElem_cons_succ, List.setIfInBounds_toArray, List.set_cons_zero, List.set_cons_succ])
                    refine wpAnyH_take (i := 25) (v := undef) rfl (by kernel_rfl) (by kernel_rfl) (by kernel_rfl) (fun _ _ _ h => h) (Or.inr ⟨by rfl, rfl⟩) (by assumption) ?_
                    (try simp only [Act.put, List.getElem_toArray, List.getElem_cons_zero, List.getElem_cons_succ, List.setIfInBounds_toArray, List.set_cons_zero, List.set_cons_succ])
                    refine wpAnyH_take (i := 26) (v := undef) rfl (by kernel_rfl) (by kernel_rfl) (by kernel_rfl) (fun _ _ _ h => h) (Or.inr ⟨by rfl, rfl⟩) (by assumption) ?_
                    (try simp only [Act.put, List.getElem_toArray, List.getElem_cons_zero, List.getElem_cons_succ, List.setIfInBounds_toArray, List.set_cons_zero, List.set_cons_succ])
                    refine wpAnyH_take (i := 27) (v := undef) rfl (by kernel_rfl) (by kernel_rfl) (by kernel_rfl) (fun _ _ _ h => h) (Or.inr ⟨by rfl, rfl⟩) (by assumption) ?_
                    (try simp only [Act.put, List.getElem_toArray, List.getElem_cons_zero, List.getElem_cons_succ, List.setIfInBounds_toArray, List.set_cons_zero, List.set_cons_succ])
                    refine wpAnyH_take (i := 28) (v := undef) rfl (by kernel_rfl) (by kernel_rfl) (by kernel_rfl) (fun _ _ _ h => h) (Or.inr ⟨by rfl, rfl⟩) (by assumption) ?_
                    (try simp only [Act.put, List.getElem_toArray, List.getElem_cons_zero, List.getElem_cons_succ, List.setIfInBounds_toArray, List.set_cons_zero, List.set_cons_succ])
                    refine wpAnyH_take (i := 29) (v := undef) rfl (by kernel_rfl) (by kernel_rfl) (by kernel_rfl) (fun _ _ _ h => h) (Or.inr ⟨by rfl, rfl⟩) (by assumption) ?_
                    (try simp only [Act.put, List.getElem_toArray, List.getElem_cons_zero, List.getElem_cons_succ, List.setIfInBounds_toArray, List.set_cons_zero, List.set_cons_succ])
                    refine wpAnyH_take (i := 30) (v := undef) rfl (by kernel_rfl) (by kernel_rfl) (by kernel_rfl) (fun _ _ _ h => h) (Or.inr ⟨by rfl, rfl⟩) (by assumption) ?_
                    (try simp only [Act.put, List.getElem_toArray, List.getElem_cons_zero, List.getElem_cons_succ, List.setIfInBounds_toArray, List.set_cons_zero, List.set_cons_succ])
                    refine wpAnyH_take (i := 31) (v := undef) rfl (by kernel_rfl) (by kernel_rfl) (by kernel_rfl) (fun _ _ _ h => h) (Or.inr ⟨by rfl, rfl⟩) (by assumption) ?_
                    (try simp only [Act.put, List.getElem_toArray, List.getElem_cons_zero, List.getElem_cons_succ, List.setIfInBounds_toArray, List.set_cons_zero, List.set_cons_succ])
                    refine wpAnyH_take (i := 32) (v := undef) rfl (by kernel_rfl) (by kernel_rfl) (by kernel_rfl) (fun _ _ _ h => h) (Or.inr ⟨by rfl, rfl⟩) (by assumption) ?_
                    (try simp only [Act.put, List.getElem_toArray, List.getElem_cons_zero, List.getElem_cons_succ, List.setIfInBounds_toArray, List.set_cons_zero, List.set_cons_succ])
                    refine wpAnyH_take (i := 33) (v := ?v444) rfl (by kernel_rfl) (by kernel_rfl) (by kernel_rfl) (fun _ _ _ h => h) (Or.inl ⟨by rfl, ?y444⟩) (by assumption) ?r444
                    case y444 => (intro w hSw; (try dsimp only at hSw); (try simp only [List.getElem_toArray, List.getElem_cons_zero, List.getElem_cons_succ]); go_simp; first | done | with_reducible rfl)
                    (try simp only [Act.put, List.getElem_toArray, List.getElem_cons_zero, List.getElem_cons_succ, List.setIfInBounds_toArray, List.set_cons_zero, List.set_cons_succ])
                    refine wpAnyH_done (by kernel_rfl) ?_ _
                    have HF := Lib.hid (HWR2.out.trans (Below.mono hp HWR2.out.size))
                    clear hp
                    go_wp2
                    go_ret
                    exact ⟨rfl, HF.out⟩
                  exact AllReadyH.nil
              · have hk0' : k = 0 := by omega
                subst hk0'
                have e0 : ((q : Int) != (i : Int)) = true := by
                  have : (q : Int) ≠ (i : Int) := by omega
                  simpa using this
                have hk0 := Kp.refl wr
                clear hb15 hb16 hq15 hq16 hls hlc hlps u0 u1 u2 u3 y0 y1 y2 y3 ult ylt hI hall hwr h2q
                have hki2 : (0 : Int) < (q : Int) := by omega
                go_wp2_with fail
                refine wp_region_held_drew (S := fun w' => Kp wr w') (by kernel_rfl) (Kp.drew hk0) (fun hHeld => ?_)
                refine wpAnyH_take (i := 0) (v := ?v445) rfl (by kernel_rfl) (by kernel_rfl) (by kernel_rfl) (fun _ _ _ h => h) (Or.inl ⟨by rfl, ?y445⟩) (by assumption) ?r445
                case y445 => (intro w hSw; (try dsimp only at hSw); (try simp only [List.getElem_toArray, List.getElem_cons_zero, List.getElem_cons_succ]); go_simp; first | done | with_reducible rfl)
                (try simp only [Act.put, List.getElem_toArray, List.getElem_cons_zero, List.getElem_cons_succ, List.setIfInBounds_toArray, List.set_cons_zero, List.set_cons_succ])
                refine wpAnyH_take (i := 1) (v := ?v446) rfl (by kernel_rfl) (by kernel_rfl) (by kernel_rfl) (fun _ _ _ h => h) (Or.inl ⟨by rfl, ?y446⟩) (by assumption) ?r446
                case y446 => (intro w hSw; (try dsimp only at hSw); (try simp only [List.getElem_toArray, List.getElem_cons_zero, List.getElem_cons_succ]); go_simp; first | done | with_reducible rfl)
                (try simp only [Act.put, List.getElem_toArray, List.getElem_cons_zero, List.getElem_cons_succ, List.setIfInBounds_toArray, List.set_cons_zero, List.set_cons_succ])
                refine wpAnyH_take (i := 2) (v := ?v447) rfl (by kernel_rfl) (by kernel_rfl) (by kernel_rfl) (fun _ _ _ h => h) (Or.inl ⟨by rfl, ?y447⟩) (by assumption) ?r447
                case y447 => (intro w hSw; (try dsimp only at hSw); (try simp only [List.getElem_toArray, List.getElem_cons_zero, List.getElem_cons_succ]); go_simp; first | done | with_reducible rfl)
                (try simp only [Act.put, List.getElem_toArray, List.getElem_cons_zero, List.getElem_cons_succ, List.setIfInBounds_toArray, List.set_cons_zero, List.set_cons_succ])
                refine wpAnyH_take (i := 3) (v := ?v448) rfl (by kernel_rfl) (by kernel_rfl) (by kernel_rfl) (fun _ _ _ h => h) (Or.inl ⟨by rfl, ?y448⟩) (by assumption) ?r448
                case y448 => (intro w hSw; (try dsimp only at hSw); (try simp only [List.getElem_toArray, List.getElem_cons_zero, List.getElem_cons_succ]); go_simp; first | done | with_reducible rfl)
                (try simp only [Act.put, List.getElem_toArray, List.getElem_cons_zero, List.getElem_cons_succ, List.setIfInBounds_toArray, List.set_cons_zero, List.set_cons_succ])
                refine wpAnyH_take (i := 4) (v := ?v449) rfl (by kernel_rfl) (by kernel_rfl) (by kernel_rfl) (fun _ _ _ h => h) (Or.inl ⟨by rfl, ?y449⟩) (by assumption) ?r449
                case y449 => (intro w hSw; (try dsimp only at hSw); (try simp only [List.getElem_toArray, List.getElem_cons_zero, List.getElem_cons_succ]); go_simp; first | done | with_reducible rfl)
                (try simp only [Act.put, List.getElem_toArray, List.getElem_cons_zero, List.getElem_cons_succ, List.setIfInBounds_toArray, List.set_cons_zero, List.set_cons_succ])
                refine wpAnyH_take (i := 5) (v := ?v450) rfl (by kernel_rfl) (by kernel_rfl) (by kernel_rfl) (fun _ _ _ h => h) (Or.inl ⟨by rfl, ?y450⟩) (by assumption) ?r450
                case y450 => (intro w hSw; (try dsimp only at hSw); (try simp only [List.getElem_toArray, List.getElem_cons_zero, List.getElem_cons_succ]); go_simp; first | done | with_reducible rfl)
                (try simp only [Act.put, List.getElem_toArray, List.getElem_cons_zero, List.getElem_cons_succ, List.setIfInBounds_toArray, List.set_cons_zero, List.set_cons_succ])
                refine wpAnyH_take (i := 6) (v := undef) rfl (by kernel_rfl) (by kernel_rfl) (by kernel_rfl) (fun _ _ _ h => h) (Or.inr ⟨by rfl, rfl⟩) (by assumption) ?_
                (try simp only [Act.put, List.getElem_toArray, List.getElem_cons_zero, List.getElem_cons_succ, List.setIfInBounds_toArray, List.set_cons_zero, List.set_cons_succ])
                refine wpAnyH_take (i := 7) (v := undef) rfl (by kernel_rfl) (by kernel_rfl) (by kernel_rfl) (fun _ _ _ h => h) (Or.inr ⟨by rfl, rfl⟩) (by assumption) ?_
                (try simp only [Act.put, List.getElem_toArray, List.getElem_cons_zero, List.getElem_cons_succ, List.setIfInBounds_toArray, List.set_cons_zero, List.set_cons_succ])
                refine wpAnyH_take (i := 8) (v := undef) rfl (by kernel_rfl) (by kernel_rfl) (by kernel_rfl) (fun _ _ _ h => h) (Or.inr ⟨by rfl, rfl⟩) (by assumption) ?_
                (try simp only [Act.put, List.getElem_toArray, List.getElem_cons_zero, List.getElem_cons_succ, List.setIfInBounds_toArray, List.set_cons_zero, List.set_cons_succ])
                refine wpAnyH_take (i := 9) (v := undef) rfl (by kernel_rfl) (by kernel_rfl) (by kernel_rfl) (fun _ _ _ h => h) (Or.inr ⟨by rfl, rfl⟩) (by assumption) ?_
                (try simp only [Act.put, List.getElem_toArray, List.getElem_cons_zero, List.getElem_cons_succ, List.setIfInBounds_toArray, List.set_cons_zero, List.set_cons_succ])
                refine wpAnyH_take (i := 10) (v := undef) rfl (by kernel_rfl) (by kernel_rfl) (by kernel_rfl) (fun _ _ _ h => h) (Or.inr ⟨by rfl, rfl⟩) (by assumption) ?_
                (try simp only [Act.put, List.getElem_toArray, List.getElem_cons_zero, List.getElem_cons_succ, List.setIfInBounds_toArray, List.set_cons_zero, List.set_cons_succ])
                refine wpAnyH_take (i := 11) (v := undef) rfl (by kernel_rfl) (by kernel_rfl) (by kernel_rfl) (fun _ _ _ h => h) (Or.inr ⟨by rfl, rfl⟩) (by assumption) ?_
                (try simp only [Act.put, List.getElem_toArray, List.getElem_cons_zero, List.getElem_cons_succ, List.setIfInBounds_toArray, List.set_cons_zero, List.set_cons_succ])
                refine wpAnyH_take (i := 12) (v := ?v457) rfl (by kernel_rfl) (by kernel_rfl) (by kernel_rfl) (fun _ _ _ h => h) (Or.inl ⟨by rfl, ?y457⟩) (by assumption) ?r457
                case y457 => (intro w hSw; (try dsimp only at hSw); (try simp only [List.getElem_toArray, List.getElem_cons_zero, List.getElem_cons_succ]); go_simp; first | done | with_reducible rfl)
                (try simp only [Act.put, List.getElem_toArray, List.getElem_cons_zero, List.getElem_cons_succ, List.setIfInBounds_toArray, List.set_cons_zero, List.set_cons_succ])
                refine wpAnyH_take (i := 13) (v := ?v458) rfl (by kernel_rfl) (by kernel_rfl) (by kernel_rfl) (fun _ _ _ h => h) (Or.inl ⟨by rfl, ?y458⟩) (by assumption) ?r458
                case y458 => (intro w hSw; (try dsimp only at hSw); (try simp only [List.getElem_toArray, List.getElem_cons_zero, List.getElem_cons_succ]); go_simp; first | done | with_reducible rfl)
                (try simp only [Act.put, List.getElem_toArray, List.getElem_cons_zero, List.getElem_cons_succ, List.setIfInBounds_toArray, List.set_cons_zero, List.set_cons_succ])
                refine wpAnyH_take (i := 14) (v := undef) rfl (by kernel_rfl) (by kernel_rfl) (by kernel_rfl) (fun _ _ _ h => h) (Or.inr ⟨by rfl, rfl⟩) (by assumption) ?_
                (try simp only [Act.put, List.getElem_toArray, List.getElem_cons_zero, List.getElem_cons_succ, List.setIfInBounds_toArray, List.set_cons_zero, List.set_cons_succ])
                refine wpAnyH_take (i := 15) (v := undef) rfl (by kernel_rfl) (by kernel_rfl) (by kernel_rfl) (fun _ _ _ h => h) (Or.inr ⟨by rfl, rfl⟩) (by assumption) ?_
                (try simp only [Act.put, List.getElem_toArray, List.getElem_cons_zero, List.getElem_cons_succ, List.setIfInBounds_toArray, List.set_cons_zero, List.set_cons_succ])
                refine wpAnyH_take (i := 16) (v := undef) rfl (by kernel_rfl) (by kernel_rfl) (by kernel_rfl) (fun _ _ _ h => h) (Or.inr ⟨by rfl, rfl⟩) (by assumption) ?_
                (try simp only [Act.put, List.getElem_toArray, List.getElem_cons_zero, List.getElem_cons_succ, List.setIfInBounds_toArray, List.set_cons_zero, List.set_cons_succ])
                refine wpAnyH_take (i := 17) (v := undef) rfl (by kernel_rfl) (by kernel_rfl) (by kernel_rfl) (fun _ _ _ h => h) (Or.inr ⟨by rfl, rfl⟩) (by assumption) ?_
                (try simp only [Act.put, List.getElem_toArray, List.getElem_cons_zero, List.getElem_cons_succ, List.setIfInBounds_toArray, List.set_cons_zero, List.set_cons_succ])
                refine wpAnyH_take (i := 18) (v := undef) rfl (by kernel_rfl) (by kernel_rfl) (by kernel_rfl) (fun _ _ _ h => h) (Or.inr ⟨by rfl, rfl⟩) (by assumption) ?_
                (try simp only [Act.put, List.getElem_toArray, List.getElem_cons_zero, List.getElem_cons_succ, List.setIfInBounds_toArray, List.set_cons_zero, List.set_cons_succ])
                refine wpAnyH_take (i := 19) (v := undef) rfl (by kernel_rfl) (by kernel_rfl) (by kernel_rfl) (fun _ _ _ h => h) (Or.inr ⟨by rfl, rfl⟩) (by assumption) ?_
                (try simp only [Act.put, List.getElem_toArray, List.getElem_cons_zero, List.getElem_cons_succ, List.setIfInBounds_toArray, List.set_cons_zero, List.set_cons_succ])
                refine wpAnyH_take (i := 20) (v := undef) rfl (by kernel_rfl) (by kernel_rfl) (by kernel_rfl) (fun _ _ _ h => h) (Or.inr ⟨by rfl, rfl⟩) (by assumption) ?_
                (try simp only [Act.put, List.getElem_toArray, List.getElem_cons_zero, List.getElem_cons_succ, List.setIfInBounds_toArray, List.set_cons_zero, List.set_cons_succ])
                refine wpAnyH_take (i := 21) (v := undef) rfl (by kernel_rfl) (by kernel_rfl) (by kernel_rfl) (fun _ _ _ h => h) (Or.inr ⟨by rfl, rfl⟩) (by assumption) ?_
                (try simp only [Act.put, List.getElem_toArray, List.getElem_cons_zero, List.getElem_cons_succ, List.setIfInBounds_toArray, List.set_cons_zero, List.set_cons_succ])
                refine wpAnyH_take (i := 22) (v := undef) rfl (by kernel_rfl) (by kernel_rfl) (by kernel_rfl) (fun _ _ _ h => h) (Or.inr ⟨by rfl, rfl⟩) (by assumption) ?_
                (try simp only [Act.put, List.getElem_toArray, List.getElem_cons_zero, List.getElem_cons_succ, List.setIfInBounds_toArray, List.set_cons_zero, List.set_cons_succ])
                refine wpAnyH_take (i := 23) (v := undef) rfl (by kernel_rfl) (by kernel_rfl) (by kernel_rfl) (fun _ _ _ h => h) (Or.inr ⟨by rfl, rfl⟩) (by assumption) ?_
                (try simp only [Act.put, List.getElem_toArray, List.getElem_cons_zero, List.getElem_cons_succ, List.setIfInBounds_toArray, List.set_cons_zero, List.set_cons_succ])
                refine wpAnyH_take (i := 24) (v := undef) rfl (by kernel_rfl) (by kernel_rfl) (by kernel_rfl) (fun _ _ _ h => h) (Or.inr ⟨by rfl, rfl⟩) (by assumption) ?_
                (try simp only [Act.put, List.getElem_toArray, List.getElem_cons_zero, List.getElem_cons_succ, List.setIfInBounds_toArray, List.set_cons_zero, List.set_cons_succ])
                refine wpAnyH_take (i := 25) (v := undef) rfl (by kernel_rfl) (by kernel_rfl) (by kernel_rfl) (fun _ _ _ h => h) (Or.inr ⟨by rfl, rfl⟩) (by assumption) ?_
                (try simp only [Act.put, List.getElem_toArray, List.getElem_cons_zero, List.getElem_cons_succ, List.setIfInBounds_toArray, List.set_cons_zero, List.set_cons_succ])
                refine wpAnyH_take (i := 26) (v := undef) rfl (by kernel_rfl) (by kernel_rfl) (by kernel_rfl) (fun _ _ _ h => h) (Or.inr ⟨by rfl, rfl⟩) (by assumption) ?_
                (try simp only [Act.put, List.getElem_toArray, List.getElem_cons_zero, List.getElem_cons_succ, List.setIfInBounds_toArray, List.set_cons_zero, List.set_cons_succ])
                refine wpAnyH_take (i := 27) (v := undef) rfl (by kernel_rfl) (by kernel_rfl) (by kernel_rfl) (fun _ _ _ h => h) (Or.inr ⟨by rfl, rfl⟩) (by assumption) ?_
                (try simp only [Act.put, List.getElem_toArray, List.getElem_cons_zero, List.getElem_cons_succ, List.setIfInBounds_toArray, List.set_cons_zero, List.set_cons_succ])
                refine wpAnyH_take (i := 28) (v := undef) rfl (by kernel_rfl) (by kernel_rfl) (by kernel_rfl) (fun _ _ _ h => h) (Or.inr ⟨by rfl, rfl⟩) (by assumption) ?_
                (try simp only [Act.put, List.getElem_toArray, List.getElem_cons_zero, List.getElem_cons_succ, List.setIfInBounds_toArray, List.set_cons_zero, List.set_cons_succ])
                refine wpAnyH_take (i := 29) (v := undef) rfl (by kernel_rfl) (by kernel_rfl) (by kernel_rfl) (fun _ _ _ h => h) (Or.inr ⟨by rfl, rfl⟩) (by assumption) ?_
                (try simp only [Act.put, List.getElem_toArray, List.getElem_cons_zero, List.getElem_cons_succ, List.setIfInBounds_toArray, List.set_cons_zero, List.set_cons_succ])
                refine wpAnyH_take (i := 30) (v := undef) rfl (by kernel_rfl) (by kernel_rfl) (by kernel_rfl) (fun _ _ _ h => h) (Or.inr ⟨by rfl, rfl⟩) (by assumption) ?_
                (try simp only [Act.put, List.getElem_toArray, List.getElem_cons_zero, List.getElem_cons_succ, List.setIfInBounds_toArray, List.set_cons_zero, List.set_cons_succ])
                refine wpAnyH_take (i := 31) (v := undef) rfl (by kernel_rfl) (by kernel_rfl) (by kernel_rfl) (fun _ _ _ h => h) (Or.inr ⟨by rfl, rfl⟩) (by assumption) ?_
                (try simp only [Act.put, List.getElem_toArray, List.getElem_cons_zero, List.getElem_cons_succ, List.setIfInBounds_toArray, List.set_cons_zero, List.set_cons_succ])
                refine wpAnyH_take (i := 32) (v := undef) rfl (by kernel_rfl) (by kernel_rfl) (by kernel_rfl) (fun _ _ _ h => h) (Or.inr ⟨by rfl, rfl⟩) (by assumption) ?_
                (try simp only [Act.put, List.getElem_toArray, List.getElem_cons_zero, List.getElem_cons_succ, List.setIfInBounds_toArray, List.set_cons_zero, List.set_cons_succ])
                refine wpAnyH_take (i := 33) (v := ?v478) rfl (by kernel_rfl) (by kernel_rfl) (by kernel_rfl) (fun _ _ _ h => h) (Or.inl ⟨by rfl, ?y478⟩) (by assumption) ?r478
                case y478 => (intro w hSw; (try dsimp only at hSw); (try simp only [List.getElem_toArray, List.getElem_cons_zero, List.getElem_cons_succ]); go_simp; first | done | with_reducible rfl)
                (try simp only [Act.put, List.getElem_toArray, List.getElem_cons_zero, List.getElem_cons_succ, List.setIfInBounds_toArray, List.set_cons_zero, List.set_cons_succ])
                refine wpAnyH_done (by kernel_rfl) ?_ _
                have HF := Lib.hid (HWR2.out.trans (Below.mono (Kp.drew hk0) HWR2.out.size))
                go_wp2
                go_ret
                exact ⟨rfl, HF.out⟩
            · obtain rfl : k = q := by omega
              obtain ⟨o0, o1, o2, o3, o4, o5, o6, o7⟩ := HOLD.out
              have TE := Lib.hid (fun (W : World) (hW : Kp wr W) => eq_k (k := 12) ((hq15.below hW).qk (hls.mono (by omega)) (by omega)) (((HQS.out.1.below h2q).below hW).qk (HLS.out.1.mono (by have := HPM.out; omega)) (by omega)))
              have TCM := Lib.hid (fun (W : World) (hW : Kp wr W) => cmp_k (k := 13) ((hq16.below hW).qk (hlc.mono (by omega)) (by omega)) (((HQS.out.2.below h2q).below hW).qk (HLS.out.2.mono (by have := HPM.out; omega)) (by omega)))
              have HAF := Lib.hid (fun w' (hk : Kp wr w') => And.intro (kp_cell hk y0) (And.intro (kp_cell hk y1) (And.intro (kp_cell hk y2) (And.intro (kp_cell hk y3) (And.intro (kp_cell hk o4) (And.intro (kp_cell hk o5) (And.intro (kp_cell hk o6) (kp_cell hk o7))))))))
              by_cases hse : Rv.sumF (Rv.gt ps) k = sf
              · rw [decide_eq_true hse] at TE
                have hge : decide (0 ≤ cmpQ (Rv.sumF (fun i => Rv.gt ps i * (((us[i]?.getD U0).spin : Int) : Rat)) k) sh) = true := by
                  have hrow := HROW.out (Rv.gt ps) k (by rw [HLN.out]; exact hqk) hall (by rw [hse, HSF.out])
                  rw [← HSH.out] at hrow
                  exact cmp_nn hrow
                generalize cmpQ (Rv.sumF (fun i => Rv.gt ps i * (((us[i]?.getD U0).spin : Int) : Rat)) k) sh = cv at *
                generalize Rv.sumF (Rv.gt ps) k = s2 at *
                generalize Rv.sumF (fun i => Rv.gt ps i * (((us[i]?.getD U0).spin : Int) : Rat)) k = h2 at *
                clear hb15 hb16 hq15 hq16 hls hlc hlps hI hall hwr h2q hse HQS HLS y0 y1 y2 y3 o4 o5 o6 o7 HOLD
                go_wp2_with fail
                refine (TE.out _ (Kp.refl wr)).mono ?_
                rintro e v1 ⟨rfl, hb1⟩
                obtain ⟨y0, y1, y2, y3, o4, o5, o6, o7⟩ := HAF.out _ hb1
                clear u0 u1 u2 u3 o0 o1 o2 o3 TE
                go_wp2_with fail
                refine (TCM.out _ hb1).mono ?_
                rintro e v2 ⟨rfl, hb2⟩
                have HF := Lib.hid (HWR2.out.trans (Below.mono (Kp.trans hb1 hb2) HWR2.out.size))
                clear y0 y1 y2 y3 o4 o5 o6 o7 hb1 hb2 TCM HAF
                go_wp2
                go_ret
                exact ⟨rfl, HF.out⟩
              · rw [decide_eq_false hse] at TE
                generalize Rv.sumF (Rv.gt ps) k = s2 at *
                generalize Rv.sumF (fun i => Rv.gt ps i * (((us[i]?.getD U0).spin : Int) : Rat)) k = h2 at *
                clear hb15 hb16 hq15 hq16 hls hlc hlps hI hall hwr h2q hse HQS HLS y0 y1 y2 y3 o4 o5 o6 o7 HOLD TCM HAF
                go_wp2_with fail
                refine (TE.out _ (Kp.refl wr)).mono ?_
                rintro e v1 ⟨rfl, hb1⟩
                have HF := Lib.hid (HWR2.out.trans (Below.mono hb1 HWR2.out.size))
                clear u0 u1 u2 u3 o0 o1 o2 o3 TE hb1
                go_wp2
                go_ret
                exact ⟨rfl, HF.out⟩
  · have hp0 := (H2.out.2.2.2.1 hr).1
    subst hp0
    generalize rchk us bs qs need = x at *
    have e1 : (x != 0) = true := by simpa using hr
    clear hr H2
    go_wp2
    go_ret
    exact ⟨rfl, HBV.out⟩

end Go.Proofs.YtodkhjihkkmplaaGreat
