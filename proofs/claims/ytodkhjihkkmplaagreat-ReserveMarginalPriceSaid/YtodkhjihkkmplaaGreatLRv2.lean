/-
ReserveMarginalPrice: its walk. No statement of the seat is proved here; no conditions beyond those of each theorem.
-/
import Derived.Test.YtodkhjihkkmplaaGreatLRv1
import Derived.Test.YtodkhjihkkmplaaGreatLRu2
namespace Go.Proofs.YtodkhjihkkmplaaGreat
set_option linter.unusedVariables false
set_option linter.unusedSimpArgs false
open Go.RowKit
open Wd
/-- The loop's memory: the running sum in its box, all below the box kept. -/
def PrI (g : Nat) (V : World) (p : Rat) (t : List Rat) (i : Nat) (wr : World) : Prop :=
  Below g V wr ∧ ∃ A k c A' k' c', Blk wr g 31 #[.bool (decide ((pyS p t i).2.num < 0)), .slice A k c, .bool false, .slice A' k' c'] ∧ RQ wr (pyS p t i).2 A k c A' k' c'
theorem cmp_negl (a b : Rat) : decide (cmpQ a b < 0) = decide (a < b) := by
  unfold cmpQ
  by_cases h : a < b
  · simp [h]
  · by_cases h2 : b < a
    · simp [h, h2]
    · simp [h, h2]
theorem pyS_lv {p : Int} {t : List Rat} {n : Nat} (hp : p.natAbs ≤ 18446744073709551616) (hl : ∀ j, j < n → Lv 6 (t[j]?.getD 0)) : ∀ {i : Nat}, i ≤ n → Lv (7 + i) (pyS (p : Rat) t i).2
  | 0, _ => lv_int (z := 0) _ (by decide)
  | i + 1, h => (pyS_lv hp hl (i := i) (by omega)).add (((lv_int 6 hp).mul (hl i (by omega))).mono (by omega))
set_option maxRecDepth 100000 in
set_option maxHeartbeats 4000000 in
theorem price30_any (A B C : Option Addr) (n c m d p pc : Nat) (us : List Un) (bs : List Bool) (es : List QE) (need : Int) (w : World) (h : UsRaw w A n us) (h' : BsAt w B m bs) (hg : QsAtR w C p es) (hgs : es.any bigQ = false → ∃ qs, GsAt 0 w C p qs) (hne : Fits need) :
    Calls Tryz.prog 8 #[.slice A n c, .slice B m d, .slice C p pc, .int .i64 need] w fun e w' => e = .returned (.bool true) ∧ Below w.heap.size w w' := by
  have TL := Lib.hid (long30_any A B C n c m d p pc us bs es w h h'.1 hg)
  by_cases hL : long30B us m es = true
  · rw [hL] at TL
    clear h h' hg hgs hL
    go_enter Tryz.func8, Tryz.ntmps8
    go_wp2_with fail
    refine TL.out.mono ?_
    rintro e w1 ⟨rfl, hb1⟩
    have HB1 := Lib.hid hb1
    clear hb1 TL
    go_wp2_with fail
    refine (awake30_any _).mono ?_
    rintro e w2 ⟨rfl, hb2⟩
    have HF := Lib.hid (HB1.out.trans (hb2.mono HB1.out.size))
    clear hb2
    go_wp2
    go_ret
    exact ⟨rfl, HF.out⟩
  have hL : long30B us m es = false := by simpa using hL
  rw [hL] at TL
  obtain ⟨l1, l2, l3⟩ := long30_no hL
  obtain ⟨hu, hn30, hm30⟩ := h.at l1
  obtain ⟨qs, hq⟩ := hgs l3
  have hpl : p ≤ 30 := by have := hg.1; omega
  have hl := hu.1
  have TF := Lib.hid (fun (z : Int) (W : World) (hW : Below w.heap.size w W) => fill_all A B C n c m d p pc us bs qs z W (hu.below hW) (h'.below hW) (hq.below hW) (by omega) (by omega) (by omega))
  have HU := Lib.hid hu
  have HBS := Lib.hid h'
  have HQ := Lib.hid hq
  have HLN := Lib.hid hl
  clear h h' hg hgs hL l1 l2 l3 hu hq hl
  go_enter Tryz.func8, Tryz.ntmps8
  go_wp2_with fail
  refine TL.out.mono ?_
  rintro e w0 ⟨rfl, hb0⟩
  have HB0 := Lib.hid hb0
  clear hb0 TL
  go_wp2_with fail
  refine (awake30_any _).mono ?_
  rintro e w1 ⟨rfl, hb1⟩
  have hB1 := HB0.out.trans (hb1.mono HB0.out.size)
  have T1 := Lib.hid (TF.out need w1 hB1)
  have HB1 := Lib.hid hB1
  clear hb1 hB1
  go_wp2_with fail
  refine T1.out.mono ?_
  rintro e w2 ⟨TA1, tn1, tc1, pr1, s1, F1, f1, g1, G1, i1, j1, rfl, hb2, hno1, hok1⟩
  have hx2 : Below w2.heap.size w2 (w2.alloc (.cells #[.bool s1, .slice F1 f1 g1, .bool false, .slice G1 i1 j1] 31)) := (Below.refl _ _).alloc (Nat.le_refl _) _
  have hN2 := Blk.new w2 31 #[.bool s1, .slice F1 f1 g1, .bool false, .slice G1 i1 j1]
  have H2 := Lib.hid (And.intro (HB1.out.trans ((hb2.trans (hx2.mono hb2.size)).mono HB1.out.size)) (And.intro hx2 (And.intro hN2 (And.intro hno1 hok1))))
  have HBV := Lib.hid H2.out.1
  clear T1 TF hb2 hx2 hN2 hno1 hok1
  by_cases hr : rchk us bs qs need = 0
  · obtain ⟨ord, ga, ho1, rfl, rfl, rfl, rfl, rfl, hR1, hQ1, hga, hl1, hl1'⟩ := H2.out.2.2.2.2 hr
    have hpb := price_bd hr (by rw [HLN.out]; exact ho1)
    have hlaw := fun i (hi : i < n) => price_law (i := i) hr (by rw [HLN.out]; exact ho1) (by rw [HLN.out]; exact hi)
    have hroom : ∀ i, i < n → 0 ≤ umax (us[i]?.getD U0) ∧ umax (us[i]?.getD U0) ≤ 3000000 ∧ 0 ≤ (us[i]?.getD U0).spin ∧ (us[i]?.getD U0).spin ≤ 1000000 := fun i hi => by
      obtain ⟨k1, k2, k3⟩ := echk_ok (rchk_ok hr).1
      have hm := k3 _ (getD_mem (d := U0) (l := us) (k := i) (by rw [HLN.out]; exact hi))
      have := uchk_ok hm
      have := uchk_spin hm
      have := uchk_spin2 hm
      omega
    have hn5 : n ≤ 5 := by have g1 := (echk_ok (rchk_ok hr).1).1; have g3 := HLN.out; omega
    have hpn : p = n := by have g1 := (rchk_ok hr).2.1; have g2 := HQ.out.1; have g3 := HLN.out; omega
    have hmn : m = n := by have g1 := (echk_ok (rchk_ok hr).1).2.1; have g2 := HBS.out.1; have g3 := HLN.out; omega
    have HPM := Lib.hid (And.intro hpn hmn)
    rw [hr]
    have hR1 := hR1.below H2.out.2.1
    generalize (fillV us bs qs need ord).tk = t1 at *
    generalize (fillV us bs qs need ord).rest = r1 at *
    generalize (fillV us bs qs need ord).price = p1 at *
    have HM := Lib.hid (And.intro hlaw (And.intro hroom hpb))
    have HR1 := Lib.hid (And.intro hR1 hl1)
    have TP := Lib.hid (pay_any 6 (some ⟨ga, 0, none⟩) n n t1 p1 (w2.alloc (.cells #[.bool (decide (r1.num < 0)), .slice F1 f1 g1, .bool false, .slice G1 i1 j1] 31)) (hR1.gs hl1 (by omega)) hn5 (by omega) (by omega))
    have z0 : ((n : Int) != (n : Int)) = false := by simp
    have TZ := Lib.hid (fun W => qfromInt64_any 0 W (by omega) (by omega))
    have HN5 := Lib.hid hn5
    clear hr H2 ho1 hlaw hroom hpb hR1 hQ1 hga hl1 hl1' hpn hmn hn5
    go_wp2_with fail
    generalize w2.alloc (.cells #[.bool (decide (r1.num < 0)), .slice F1 f1 g1, .bool false, .slice G1 i1 j1] 31) = V2 at *
    refine TP.out.mono ?_
    rintro e w4 ⟨gE, A2, k2, c2, B2, j2, d2, rfl, hRE, hQE, hgE, hlE, hlA, hb4⟩
    have hx4 : Below w4.heap.size w4 (w4.alloc (.cells #[.bool (decide ((pyS (p1 : Rat) t1 n).2.num < 0)), .slice A2 k2 c2, .bool false, .slice B2 j2 d2] 31)) := (Below.refl _ _).alloc (Nat.le_refl _) _
    have hN4 := Blk.new w4 31 #[.bool (decide ((pyS (p1 : Rat) t1 n).2.num < 0)), .slice A2 k2 c2, .bool false, .slice B2 j2 d2]
    have hk4 := hb4.trans (hx4.mono hb4.size)
    have H4 := Lib.hid (And.intro hk4 (And.intro hN4 (And.intro (hRE.below hx4) (And.intro (hQE.below hx4) (And.intro hlE hlA)))))
    clear TP hx4 hN4 hk4 hRE hQE hgE hlE hlA hb4
    go_wp2_with fail
    generalize w4.alloc (.cells #[.bool (decide ((pyS (p1 : Rat) t1 n).2.num < 0)), .slice A2 k2 c2, .bool false, .slice B2 j2 d2] 31) = V4 at *
    refine (TZ.out _).mono ?_
    rintro e w5 ⟨F3, f3, g3, G3, i3, j3, rfl, hz1, hz2, hz3, hz4, -, -, hb5⟩
    have hx5 : Below w5.heap.size w5 (w5.alloc (.cells #[.bool false, .slice F3 f3 g3, .bool false, .slice G3 i3 j3] 31)) := (Below.refl _ _).alloc (Nat.le_refl _) _
    have hN5 := Blk.new w5 31 #[.bool false, .slice F3 f3 g3, .bool false, .slice G3 i3 j3]
    have hk5 := hb5.trans (hx5.mono hb5.size)
    have hq0 : RQ (w5.alloc (.cells #[.bool false, .slice F3 f3 g3, .bool false, .slice G3 i3 j3] 31)) ((0 : Int) : Rat) F3 f3 g3 G3 i3 j3 := RQ.below ⟨hz1, hz2, hz3, hz4⟩ hx5
    have hgl : w4.heap.size < w5.heap.size := Nat.lt_of_lt_of_le H4.out.2.1.lt hb5.size
    have H5 := Lib.hid (And.intro hk5 (And.intro hN5 (And.intro hq0 (And.intro hgl hb5.size))))
    clear TZ hx5 hN5 hk5 hq0 hgl hz1 hz2 hz3 hz4 hb5
    go_wp2_with fail
    generalize w5.alloc (.cells #[.bool false, .slice F3 f3 g3, .bool false, .slice G3 i3 j3] 31) = V at *
    go_loopw [16] (fun t wr => ∃ i : Nat, i ≤ n ∧ t = .int .i64 (i : Int) ∧ Hid (PrI w5.heap.size V (p1 : Rat) t1 i wr)) (fun t _ => n - (intOf t).toNat)
    case atStart => exact ⟨0, Nat.zero_le _, rfl, Lib.hid ⟨Below.refl _ _, F3, f3, g3, G3, i3, j3, H5.out.2.1, H5.out.2.2.1⟩⟩
    case round =>
      obtain ⟨i, hi, rfl, hI⟩ := hrel
      have h4r := H5.out.1.trans (hI.out.1.mono H5.out.2.2.2.2)
      have h2r := H4.out.1.trans (h4r.mono H4.out.1.size)
      have hwr := HBV.out.trans (h2r.mono HBV.out.size)
      obtain ⟨-, AS, ks, cs, BS, js, ds, hbs, hqs⟩ := hI.out
      obtain ⟨s0, s1, s2, s3, -, -, -, -⟩ := hbs.four
      by_cases hlt : i < n
      · have him : i < m := by have := HPM.out; omega
        have hip : i < p := by have := HPM.out; omega
        obtain ⟨b, o, rfl, hb, hcell⟩ := HU.out.2 (by omega)
        obtain ⟨b', o', rfl, hb', hcell'⟩ := HBS.out.2 (by omega)
        obtain ⟨b2, o2, rfl, hb2, hcell2⟩ := HQ.out.2 (by omega)
        have hRa := HR1.out.1.below h2r
        have hRe := H4.out.2.2.1.below h4r
        obtain ⟨A5, k5, c5, A6, k6, c6, x0, x1, x2, x3, -, -, -, -, hk5, hk6, hW5, hW6⟩ := hRa.cells hlt
        obtain ⟨A7, k7, c7, A8, k8, c8, y0, y1, y2, y3, -, -, -, -, hk7, hk8, hW7, hW8⟩ := hRe.cells hlt
        have hga : ga < wr.heap.size := by obtain ⟨_, _, hx, _⟩ := hRa; exact hx.lt
        have hgb : gE < wr.heap.size := by obtain ⟨_, _, hx, _⟩ := hRe; exact hx.lt
        have hun := (hcell i hlt).below hb hwr
        have hon := (Below.cell hwr (p := ⟨b', o' + i, none⟩) hb').trans (hcell' i him)
        obtain ⟨an, aA, ak, ac, an', aA', ak', ac', z1, z2, z3, z4, hq⟩ := hcell2 i hip
        have z1 := (Below.cell hwr (p := ⟨b2, o2 + i * 4, none⟩) hb2).trans z1
        have z2 := (Below.cell hwr (p := ⟨b2, o2 + i * 4 + 1, none⟩) hb2).trans z2
        have z3 := (Below.cell hwr (p := ⟨b2, o2 + i * 4 + 2, none⟩) hb2).trans z3
        have z4 := (Below.cell hwr (p := ⟨b2, o2 + i * 4 + 3, none⟩) hb2).trans z4
        have hq := hq.below hwr
        have hbr : b < wr.heap.size := Nat.lt_of_lt_of_le hb (Below.size hwr)
        have hbr' : b' < wr.heap.size := Nat.lt_of_lt_of_le hb' (Below.size hwr)
        have hbr2 : b2 < wr.heap.size := Nat.lt_of_lt_of_le hb2 (Below.size hwr)
        obtain ⟨m1, m2, m3, m4⟩ := HM.out.1 i hlt
        obtain ⟨m5, m6, m7, m8⟩ := HM.out.2.1 i hlt
        have hstep : (pyS (p1 : Rat) t1 (i + 1)).2 = (pyS (p1 : Rat) t1 i).2 + (p1 : Rat) * (t1[i]?.getD 0) := rfl
        have hlen1 : t1.length = n := hRa.1
        have hte : (pyS (p1 : Rat) t1 n).1[i]?.getD 0 = (p1 : Rat) * (t1[i]?.getD 0) := pyS_get _ _ _ _ hlt (by omega)
        rw [hte] at y0 hW7 hW8
        unfold Rv.gt at m1 m2 m3 m4
        have hla := HR1.out.2 i hlt
        have hlt7 : Lv 7 ((p1 : Rat) * (t1[i]?.getD 0)) := (lv_int 6 (by have := HM.out.2.2; omega)).mul hla
        have hls : Lv (7 + i) (pyS (p1 : Rat) t1 i).2 := pyS_lv (by have := HM.out.2.2; omega) HR1.out.2 (by omega)
        have h9 : Hid (Below w5.heap.size V wr ∧ (pyS (p1 : Rat) t1 (i + 1)).2 = (pyS (p1 : Rat) t1 i).2 + (p1 : Rat) * (t1[i]?.getD 0)) := Lib.hid ⟨hI.out.1, hstep⟩
        have hgv : w5.heap.size < V.heap.size := H5.out.2.1.lt
        generalize hsm : (pyS (p1 : Rat) t1 i).2 = sm at *
        generalize bs[i]?.getD false = bk at *
        generalize us[i]?.getD U0 = un at *
        generalize qs[i]?.getD 0 = q at *
        generalize t1[i]?.getD 0 = ta at *
        obtain ⟨bus, mn, st, up, dn, start, idle, spin, on⟩ := un
        obtain ⟨A', n', c', ⟨f1, f2, f3, f4, f5, f6, f7, f8, f9⟩, hs, hn'⟩ := hun
        simp only at f1 f2 f3 f4 f5 f6 f7 f8 f9 hs m2 m3 m4 m7 m8
        have TS0 := Lib.hid (sign_k (RQ.qk (K := 6) ⟨hk5, hk6, hW5, hW6⟩ hla (by omega)))
        have hlr : Lv 1 (roomV bk ⟨bus, mn, st, up, dn, start, idle, spin, on⟩ q) := by
          unfold roomV
          split
          · exact (lv_int 0 (by omega)).sub hq.lv
          · exact lv_int 1 (by decide)
        have TR := Lib.hid (fun (W : World) (hW : Kp wr W) => room_any 0 (by omega) bk bus mn up dn start idle spin on A' aA aA' n' c' ak ac ak' ac' an an' st q W (hs.below hW) hn' (hq.below hW) m5 m6)
        generalize roomV bk ⟨bus, mn, st, up, dn, start, idle, spin, on⟩ q = rv at *
        have TE := Lib.hid (fun (W : World) (hW : Kp wr W) (R R' : Option Addr) (k d k' d' : Nat) (h : RQ W rv R k d R' k' d') => eq_k (RQ.qk (RQ.below ⟨hk5, hk6, hW5, hW6⟩ hW) hla (by omega)) (h.qk (hlr.mono (show 1 ≤ 6 by omega)) (by omega)))
        have TF := Lib.hid (fun (W : World) => qfromInt64_any spin W (by omega) (by omega))
        have hlsp := lv_int 6 (z := spin) (by omega)
        have TM := Lib.hid (fun (W : World) (hW : Kp wr W) (R R' : Option Addr) (k d k' d' : Nat) (h : RQ W ((spin : Int) : Rat) R k d R' k' d') => mul_k (k := 6) (by omega) (RQ.qk (RQ.below ⟨hk5, hk6, hW5, hW6⟩ hW) hla (by omega)) (h.qk hlsp (by omega)))
        have hltm := hla.mul hlsp
        have hcv := cmp_negl ((p1 : Rat) * ta) (ta * ((spin : Int) : Rat))
        rw [decide_eq_false (show ¬ (p1 : Rat) * ta < ta * ((spin : Int) : Rat) by grind)] at hcv
        generalize ta * ((spin : Int) : Rat) = tm at *
        generalize ((spin : Int) : Rat) = fs at *
        generalize (p1 : Rat) * ta = te at *
        have TC := Lib.hid (fun (W : World) (hW : Kp wr W) (R R' : Option Addr) (k d k' d' : Nat) (h : RQ W tm R k d R' k' d') => cmp_k (k := 7) (RQ.qk (RQ.below ⟨hk7, hk8, hW7, hW8⟩ hW) hlt7 (by omega)) (h.qk hltm (by omega)))
        have TADD := Lib.hid (fun (W : World) (hW : Kp wr W) => add_k (k := 7 + i) (by have := HN5.out; omega) ((hqs.below hW).qk hls (by have := HN5.out; omega)) (RQ.qk (RQ.below ⟨hk7, hk8, hW7, hW8⟩ hW) (hlt7.mono (by omega)) (by have := HN5.out; omega)))
        have HSUM := Lib.hid hbs
        have hki1 : (0 : Int) ≤ (i : Int) := by omega
        have hki2 : (i : Int) < (n : Int) := by omega
        have hki3 : (i : Int) < (m : Int) := by omega
        have hki4 : (i : Int) < (p : Int) := by omega
        have HS := Lib.hid (show ∀ w', Kp wr w' → (w'.cell? ⟨ga, i * 4, none⟩ = some (.bool (decide (ta.num < 0))) ∧ w'.cell? ⟨ga, i * 4 + 1, none⟩ = some (.slice A5 k5 c5) ∧ w'.cell? ⟨ga, i * 4 + 2, none⟩ = some (.bool false) ∧ w'.cell? ⟨ga, i * 4 + 3, none⟩ = some (.slice A6 k6 c6) ∧ w'.cell? ⟨gE, i * 4, none⟩ = some (.bool (decide (te.num < 0))) ∧ w'.cell? ⟨gE, i * 4 + 1, none⟩ = some (.slice A7 k7 c7) ∧ w'.cell? ⟨gE, i * 4 + 2, none⟩ = some (.bool false) ∧ w'.cell? ⟨gE, i * 4 + 3, none⟩ = some (.slice A8 k8 c8) ∧ w'.cell? ⟨b, o + i * 9, none⟩ = some (.int .i64 bus) ∧ w'.cell? ⟨b, o + i * 9 + 1, none⟩ = some (.int .i64 mn) ∧ w'.cell? ⟨b, o + i * 9 + 2, none⟩ = some (.slice A' n' c') ∧ w'.cell? ⟨b, o + i * 9 + 3, none⟩ = some (.int .i64 up) ∧ w'.cell? ⟨b, o + i * 9 + 4, none⟩ = some (.int .i64 dn) ∧ w'.cell? ⟨b, o + i * 9 + 5, none⟩ = some (.int .i64 start) ∧ w'.cell? ⟨b, o + i * 9 + 6, none⟩ = some (.int .i64 idle) ∧ w'.cell? ⟨b, o + i * 9 + 7, none⟩ = some (.int .i64 spin) ∧ w'.cell? ⟨b, o + i * 9 + 8, none⟩ = some (.int .i64 on) ∧ w'.cell? ⟨b', o' + i, none⟩ = some (.bool bk) ∧ w'.cell? ⟨b2, o2 + i * 4, none⟩ = some (.bool an) ∧ w'.cell? ⟨b2, o2 + i * 4 + 1, none⟩ = some (.slice aA ak ac) ∧ w'.cell? ⟨b2, o2 + i * 4 + 2, none⟩ = some (.bool an') ∧ w'.cell? ⟨b2, o2 + i * 4 + 3, none⟩ = some (.slice aA' ak' ac')) ∧ Kp wr w' from fun w' hk => ⟨⟨(Below.cell hk (p := ⟨ga, _, none⟩) hga).trans x0, (Below.cell hk (p := ⟨ga, _, none⟩) hga).trans x1, (Below.cell hk (p := ⟨ga, _, none⟩) hga).trans x2, (Below.cell hk (p := ⟨ga, _, none⟩) hga).trans x3, (Below.cell hk (p := ⟨gE, _, none⟩) hgb).trans y0, (Below.cell hk (p := ⟨gE, _, none⟩) hgb).trans y1, (Below.cell hk (p := ⟨gE, _, none⟩) hgb).trans y2, (Below.cell hk (p := ⟨gE, _, none⟩) hgb).trans y3, (Below.cell hk (p := ⟨b, _, none⟩) hbr).trans f1, (Below.cell hk (p := ⟨b, _, none⟩) hbr).trans f2, (Below.cell hk (p := ⟨b, _, none⟩) hbr).trans f3, (Below.cell hk (p := ⟨b, _, none⟩) hbr).trans f4, (Below.cell hk (p := ⟨b, _, none⟩) hbr).trans f5, (Below.cell hk (p := ⟨b, _, none⟩) hbr).trans f6, (Below.cell hk (p := ⟨b, _, none⟩) hbr).trans f7, (Below.cell hk (p := ⟨b, _, none⟩) hbr).trans f8, (Below.cell hk (p := ⟨b, _, none⟩) hbr).trans f9, (Below.cell hk (p := ⟨b', _, none⟩) hbr').trans hon, (Below.cell hk (p := ⟨b2, _, none⟩) hbr2).trans z1, (Below.cell hk (p := ⟨b2, _, none⟩) hbr2).trans z2, (Below.cell hk (p := ⟨b2, _, none⟩) hbr2).trans z3, (Below.cell hk (p := ⟨b2, _, none⟩) hbr2).trans z4⟩, hk⟩)
        have i1 : IntKind.i64.wrap ((i : Int) + 1) = ((i + 1 : Nat) : Int) := IntWalk.i64_in _ (by omega)
        have hyc := Lib.hid (fun (w' : World) (hk : Kp wr w') => And.intro ((Below.cell hk (p := ⟨gE, _, none⟩) hgb).trans y0) (And.intro ((Below.cell hk (p := ⟨gE, _, none⟩) hgb).trans y1) (And.intro ((Below.cell hk (p := ⟨gE, _, none⟩) hgb).trans y2) ((Below.cell hk (p := ⟨gE, _, none⟩) hgb).trans y3))))
        generalize hsg : sgnQ ta = sv at *
        generalize cmpQ te tm = cv at *
        have HSG := Lib.hid hsg
        have M2 := Lib.hid m2
        have M3 := Lib.hid m3
        clear hb hb' hb2 hcell hcell' hcell2 hI h4r h2r hwr hRa hRe hk5 hk6 hW5 hW6 hk7 hk8 hW7 hW8 hga hgb hq hs hn' hbr hbr' hbr2 m1 m2 m3 m4 m5 m6 m7 m8 hla hlt7 hls hlr hlsp hltm hte hstep hlen1 hsm hsg y0 y1 y2 y3 f1 f2 f3 f4 f5 f6 f7 f8 f9 z1 z2 z3 z4 hon hbs hqs s0 s1 s2 s3
        rcases Int.lt_trichotomy spin p1 with hc | hc | hc
        · have d1 : decide (spin < p1) = true := decide_eq_true hc
          have d2 : decide (p1 < spin) = false := decide_eq_false (by omega)
          have heq := M2.out hc
          rw [decide_eq_true heq] at TE
          clear heq hc M2 M3 HSG
          go_wp2_with fail
          refine TS0.out.mono ?_
          rintro e v0 ⟨rfl, hb0⟩
          have hk0 : Kp wr v0 := hb0
          clear hb0 x0 x1 x2 x3
          go_wp2_with fail
          refine wp_region_held_drew (S := fun w' => (w'.cell? ⟨ga, i * 4, none⟩ = some (.bool (decide (ta.num < 0))) ∧ w'.cell? ⟨ga, i * 4 + 1, none⟩ = some (.slice A5 k5 c5) ∧ w'.cell? ⟨ga, i * 4 + 2, none⟩ = some (.bool false) ∧ w'.cell? ⟨ga, i * 4 + 3, none⟩ = some (.slice A6 k6 c6) ∧ w'.cell? ⟨gE, i * 4, none⟩ = some (.bool (decide (te.num < 0))) ∧ w'.cell? ⟨gE, i * 4 + 1, none⟩ = some (.slice A7 k7 c7) ∧ w'.cell? ⟨gE, i * 4 + 2, none⟩ = some (.bool false) ∧ w'.cell? ⟨gE, i * 4 + 3, none⟩ = some (.slice A8 k8 c8) ∧ w'.cell? ⟨b, o + i * 9, none⟩ = some (.int .i64 bus) ∧ w'.cell? ⟨b, o + i * 9 + 1, none⟩ = some (.int .i64 mn) ∧ w'.cell? ⟨b, o + i * 9 + 2, none⟩ = some (.slice A' n' c') ∧ w'.cell? ⟨b, o + i * 9 + 3, none⟩ = some (.int .i64 up) ∧ w'.cell? ⟨b, o + i * 9 + 4, none⟩ = some (.int .i64 dn) ∧ w'.cell? ⟨b, o + i * 9 + 5, none⟩ = some (.int .i64 start) ∧ w'.cell? ⟨b, o + i * 9 + 6, none⟩ = some (.int .i64 idle) ∧ w'.cell? ⟨b, o + i * 9 + 7, none⟩ = some (.int .i64 spin) ∧ w'.cell? ⟨b, o + i * 9 + 8, none⟩ = some (.int .i64 on) ∧ w'.cell? ⟨b', o' + i, none⟩ = some (.bool bk) ∧ w'.cell? ⟨b2, o2 + i * 4, none⟩ = some (.bool an) ∧ w'.cell? ⟨b2, o2 + i * 4 + 1, none⟩ = some (.slice aA ak ac) ∧ w'.cell? ⟨b2, o2 + i * 4 + 2, none⟩ = some (.bool an') ∧ w'.cell? ⟨b2, o2 + i * 4 + 3, none⟩ = some (.slice aA' ak' ac')) ∧ Kp wr w') (by kernel_rfl) (HS.out _ (Kp.drew hk0)) (fun hHeld => ?_)
          refine wpAnyH_take (i := 0) (v := ?v1) rfl (by kernel_rfl) (by kernel_rfl) (by kernel_rfl) (fun _ _ _ h => h) (Or.inl ⟨by rfl, ?y1⟩) (by assumption) ?r1
          case y1 => (intro w hSw; (try dsimp only at hSw); (try simp only [List.getElem_toArray, List.getElem_cons_zero, List.getElem_cons_succ]); go_simp; first | done | with_reducible rfl)
          (try simp only [Act.put, List.getElem_toArray, List.getElem_cons_zero, List.getElem_cons_succ, List.setIfInBounds_toArray, List.set_cons_zero, List.set_cons_succ])
          refine wpAnyH_take (i := 1) (v := ?v2) rfl (by kernel_rfl) (by kernel_rfl) (by kernel_rfl) (fun _ _ _ h => h) (Or.inl ⟨by rfl, ?y2⟩) (by assumption) ?r2
          case y2 => (intro w hSw; (try dsimp only at hSw); (try simp only [List.getElem_toArray, List.getElem_cons_zero, List.getElem_cons_succ]); go_simp; first | done | with_reducible rfl)
          (try simp only [Act.put, List.getElem_toArray, List.getElem_cons_zero, List.getElem_cons_succ, List.setIfInBounds_toArray, List.set_cons_zero, List.set_cons_succ])
          refine wpAnyH_take (i := 2) (v := ?v3) rfl (by kernel_rfl) (by kernel_rfl) (by kernel_rfl) (fun _ _ _ h => h) (Or.inl ⟨by rfl, ?y3⟩) (by assumption) ?r3
          case y3 => (intro w hSw; (try dsimp only at hSw); (try simp only [List.getElem_toArray, List.getElem_cons_zero, List.getElem_cons_succ]); go_simp; first | done | with_reducible rfl)
          (try simp only [Act.put, List.getElem_toArray, List.getElem_cons_zero, List.getElem_cons_succ, List.setIfInBounds_toArray, List.set_cons_zero, List.set_cons_succ])
          refine wpAnyH_take (i := 3) (v := ?v4) rfl (by kernel_rfl) (by kernel_rfl) (by kernel_rfl) (fun _ _ _ h => h) (Or.inl ⟨by rfl, ?y4⟩) (by assumption) ?r4
          case y4 => (intro w hSw; (try dsimp only at hSw); (try simp only [List.getElem_toArray, List.getElem_cons_zero, List.getElem_cons_succ]); go_simp; first | done | with_reducible rfl)
          (try simp only [Act.put, List.getElem_toArray, List.getElem_cons_zero, List.getElem_cons_succ, List.setIfInBounds_toArray, List.set_cons_zero, List.set_cons_succ])
          refine wpAnyH_take (i := 4) (v := ?v5) rfl (by kernel_rfl) (by kernel_rfl) (by kernel_rfl) (fun _ _ _ h => h) (Or.inl ⟨by rfl, ?y5⟩) (by assumption) ?r5
          case y5 => (intro w hSw; (try dsimp only at hSw); (try simp only [List.getElem_toArray, List.getElem_cons_zero, List.getElem_cons_succ]); go_simp; first | done | with_reducible rfl)
          (try simp only [Act.put, List.getElem_toArray, List.getElem_cons_zero, List.getElem_cons_succ, List.setIfInBounds_toArray, List.set_cons_zero, List.set_cons_succ])
          refine wpAnyH_take (i := 5) (v := ?v6) rfl (by kernel_rfl) (by kernel_rfl) (by kernel_rfl) (fun _ _ _ h => h) (Or.inl ⟨by rfl, ?y6⟩) (by assumption) ?r6
          case y6 => (intro w hSw; (try dsimp only at hSw); (try simp only [List.getElem_toArray, List.getElem_cons_zero, List.getElem_cons_succ]); go_simp; first | done | with_reducible rfl)
          (try simp only [Act.put, List.getElem_toArray, List.getElem_cons_zero, List.getElem_cons_succ, List.setIfInBounds_toArray, List.set_cons_zero, List.set_cons_succ])
          refine wpAnyH_take (i := 6) (v := ?v7) rfl (by kernel_rfl) (by kernel_rfl) (by kernel_rfl) (fun _ _ _ h => h) (Or.inl ⟨by rfl, ?y7⟩) (by assumption) ?r7
          case y7 => (intro w hSw; (try dsimp only at hSw); (try simp only [List.getElem_toArray, List.getElem_cons_zero, List.getElem_cons_succ]); go_simp; first | done | with_reducible rfl)
          (try simp only [Act.put, List.getElem_toArray, List.getElem_cons_zero, List.getElem_cons_succ, List.setIfInBounds_toArray, List.set_cons_zero, List.set_cons_succ])
          refine wpAnyH_take (i := 7) (v := ?v8) rfl (by kernel_rfl) (by kernel_rfl) (by kernel_rfl) (fun _ _ _ h => h) (Or.inl ⟨by rfl, ?y8⟩) (by assumption) ?r8
          case y8 => (intro w hSw; (try dsimp only at hSw); (try simp only [List.getElem_toArray, List.getElem_cons_zero, List.getElem_cons_succ]); go_simp; first | done | with_reducible rfl)
          (try simp only [Act.put, List.getElem_toArray, List.getElem_cons_zero, List.getElem_cons_succ, List.setIfInBounds_toArray, List.set_cons_zero, List.set_cons_succ])
          refine wpAnyH_take (i := 8) (v := ?v9) rfl (by kernel_rfl) (by kernel_rfl) (by kernel_rfl) (fun _ _ _ h => h) (Or.inl ⟨by rfl, ?y9⟩) (by assumption) ?r9
          case y9 => (intro w hSw; (try dsimp only at hSw); (try simp only [List.getElem_toArray, List.getElem_cons_zero, List.getElem_cons_succ]); go_simp; first | done | with_reducible rfl)
          (try simp only [Act.put, List.getElem_toArray, List.getElem_cons_zero, List.getElem_cons_succ, List.setIfInBounds_toArray, List.set_cons_zero, List.set_cons_succ])
          refine wpAnyH_take (i := 9) (v := ?v10) rfl (by kernel_rfl) (by kernel_rfl) (by kernel_rfl) (fun _ _ _ h => h) (Or.inl ⟨by rfl, ?y10⟩) (by assumption) ?r10
          case y10 => (intro w hSw; (try dsimp only at hSw); (try simp only [List.getElem_toArray, List.getElem_cons_zero, List.getElem_cons_succ]); go_simp; first | done | with_reducible rfl)
          (try simp only [Act.put, List.getElem_toArray, List.getElem_cons_zero, List.getElem_cons_succ, List.setIfInBounds_toArray, List.set_cons_zero, List.set_cons_succ])
          refine wpAnyH_take (i := 10) (v := ?v11) rfl (by kernel_rfl) (by kernel_rfl) (by kernel_rfl) (fun _ _ _ h => h) (Or.inl ⟨by rfl, ?y11⟩) (by assumption) ?r11
          case y11 => (intro w hSw; (try dsimp only at hSw); (try simp only [List.getElem_toArray, List.getElem_cons_zero, List.getElem_cons_succ]); go_simp; first | done | with_reducible rfl)
          (try simp only [Act.put, List.getElem_toArray, List.getElem_cons_zero, List.getElem_cons_succ, List.setIfInBounds_toArray, List.set_cons_zero, List.set_cons_succ])
          refine wpAnyH_take (i := 11) (v := ?v12) rfl (by kernel_rfl) (by kernel_rfl) (by kernel_rfl) (fun _ _ _ h => h) (Or.inl ⟨by rfl, ?y12⟩) (by assumption) ?r12
          case y12 => (intro w hSw; (try dsimp only at hSw); (try simp only [List.getElem_toArray, List.getElem_cons_zero, List.getElem_cons_succ]); go_simp; first | done | with_reducible rfl)
          (try simp only [Act.put, List.getElem_toArray, List.getElem_cons_zero, List.getElem_cons_succ, List.setIfInBounds_toArray, List.set_cons_zero, List.set_cons_succ])
          refine wpAnyH_take (i := 12) (v := ?v13) rfl (by kernel_rfl) (by kernel_rfl) (by kernel_rfl) (fun _ _ _ h => h) (Or.inl ⟨by rfl, ?y13⟩) (by assumption) ?r13
          case y13 => (intro w hSw; (try dsimp only at hSw); (try simp only [List.getElem_toArray, List.getElem_cons_zero, List.getElem_cons_succ]); go_simp; first | done | with_reducible rfl)
          (try simp only [Act.put, List.getElem_toArray, List.getElem_cons_zero, List.getElem_cons_succ, List.setIfInBounds_toArray, List.set_cons_zero, List.set_cons_succ])
          refine wpAnyH_take (i := 13) (v := ?v14) rfl (by kernel_rfl) (by kernel_rfl) (by kernel_rfl) (fun _ _ _ h => h) (Or.inl ⟨by rfl, ?y14⟩) (by assumption) ?r14
          case y14 => (intro w hSw; (try dsimp only at hSw); (try simp only [List.getElem_toArray, List.getElem_cons_zero, List.getElem_cons_succ]); go_simp; first | done | with_reducible rfl)
          (try simp only [Act.put, List.getElem_toArray, List.getElem_cons_zero, List.getElem_cons_succ, List.setIfInBounds_toArray, List.set_cons_zero, List.set_cons_succ])
          refine wpAnyH_take (i := 14) (v := ?v15) rfl (by kernel_rfl) (by kernel_rfl) (by kernel_rfl) (fun _ _ _ h => h) (Or.inl ⟨by rfl, ?y15⟩) (by assumption) ?r15
          case y15 => (intro w hSw; (try dsimp only at hSw); (try simp only [List.getElem_toArray, List.getElem_cons_zero, List.getElem_cons_succ]); go_simp; first | done | with_reducible rfl)
          (try simp only [Act.put, List.getElem_toArray, List.getElem_cons_zero, List.getElem_cons_succ, List.setIfInBounds_toArray, List.set_cons_zero, List.set_cons_succ])
          refine wpAnyH_take (i := 15) (v := ?v16) rfl (by kernel_rfl) (by kernel_rfl) (by kernel_rfl) (fun _ _ _ h => h) (Or.inl ⟨by rfl, ?y16⟩) (by assumption) ?r16
          case y16 => (intro w hSw; (try dsimp only at hSw); (try simp only [List.getElem_toArray, List.getElem_cons_zero, List.getElem_cons_succ]); go_simp; first | done | with_reducible rfl)
          (try simp only [Act.put, List.getElem_toArray, List.getElem_cons_zero, List.getElem_cons_succ, List.setIfInBounds_toArray, List.set_cons_zero, List.set_cons_succ])
          refine wpAnyH_take (i := 16) (v := ?v17) rfl (by kernel_rfl) (by kernel_rfl) (by kernel_rfl) (fun _ _ _ h => h) (Or.inl ⟨by rfl, ?y17⟩) (by assumption) ?r17
          case y17 => (intro w hSw; (try dsimp only at hSw); (try simp only [List.getElem_toArray, List.getElem_cons_zero, List.getElem_cons_succ]); go_simp; first | done | with_reducible rfl)
          (try simp only [Act.put, List.getElem_toArray, List.getElem_cons_zero, List.getElem_cons_succ, List.setIfInBounds_toArray, List.set_cons_zero, List.set_cons_succ])
          refine wpAnyH_take (i := 17) (v := ?v18) rfl (by kernel_rfl) (by kernel_rfl) (by kernel_rfl) (fun _ _ _ h => h) (Or.inl ⟨by rfl, ?y18⟩) (by assumption) ?r18
          case y18 => (intro w hSw; (try dsimp only at hSw); (try simp only [List.getElem_toArray, List.getElem_cons_zero, List.getElem_cons_succ]); go_simp; first | done | with_reducible rfl)
          (try simp only [Act.put, List.getElem_toArray, List.getElem_cons_zero, List.getElem_cons_succ, List.setIfInBounds_toArray, List.set_cons_zero, List.set_cons_succ])
          refine wpAnyH_take (i := 18) (v := ?v19) rfl (by kernel_rfl) (by kernel_rfl) (by kernel_rfl) (fun _ _ _ h => h) (Or.inl ⟨by rfl, ?y19⟩) (by assumption) ?r19
          case y19 => (intro w hSw; (try dsimp only at hSw); (try simp only [List.getElem_toArray, List.getElem_cons_zero, List.getElem_cons_succ]); go_simp; first | done | with_reducible rfl)
          (try simp only [Act.put, List.getElem_toArray, List.getElem_cons_zero, List.getElem_cons_succ, List.setIfInBounds_toArray, List.set_cons_zero, List.set_cons_succ])
          refine wpAnyH_take (i := 19) (v := ?v20) rfl (by kernel_rfl) (by kernel_rfl) (by kernel_rfl) (fun _ _ _ h => h) (Or.inl ⟨by rfl, ?y20⟩) (by assumption) ?r20
          case y20 => (intro w hSw; (try dsimp only at hSw); (try simp only [List.getElem_toArray, List.getElem_cons_zero, List.getElem_cons_succ]); go_simp; first | done | with_reducible rfl)
          (try simp only [Act.put, List.getElem_toArray, List.getElem_cons_zero, List.getElem_cons_succ, List.setIfInBounds_toArray, List.set_cons_zero, List.set_cons_succ])
          refine wpAnyH_take (i := 20) (v := ?v21) rfl (by kernel_rfl) (by kernel_rfl) (by kernel_rfl) (fun _ _ _ h => h) (Or.inl ⟨by rfl, ?y21⟩) (by assumption) ?r21
          case y21 => (intro w hSw; (try dsimp only at hSw); (try simp only [List.getElem_toArray, List.getElem_cons_zero, List.getElem_cons_succ]); go_simp; first | done | with_reducible rfl)
          (try simp only [Act.put, List.getElem_toArray, List.getElem_cons_zero, List.getElem_cons_succ, List.setIfInBounds_toArray, List.set_cons_zero, List.set_cons_succ])
          refine wpAnyH_take (i := 21) (v := ?v22) rfl (by kernel_rfl) (by kernel_rfl) (by kernel_rfl) (fun _ _ _ h => h) (Or.inl ⟨by rfl, ?y22⟩) (by assumption) ?r22
          case y22 => (intro w hSw; (try dsimp only at hSw); (try simp only [List.getElem_toArray, List.getElem_cons_zero, List.getElem_cons_succ]); go_simp; first | done | with_reducible rfl)
          (try simp only [Act.put, List.getElem_toArray, List.getElem_cons_zero, List.getElem_cons_succ, List.setIfInBounds_toArray, List.set_cons_zero, List.set_cons_succ])
          refine wpAnyH_take (i := 22) (v := ?v23) rfl (by kernel_rfl) (by kernel_rfl) (by kernel_rfl) (fun _ _ _ h => h) (Or.inl ⟨by rfl, ?y23⟩) (by assumption) ?r23
          case y23 => (intro w hSw; (try dsimp only at hSw); (try simp only [List.getElem_toArray, List.getElem_cons_zero, List.getElem_cons_succ]); go_simp; first | done | with_reducible rfl)
          (try simp only [Act.put, List.getElem_toArray, List.getElem_cons_zero, List.getElem_cons_succ, List.setIfInBounds_toArray, List.set_cons_zero, List.set_cons_succ])
          refine wpAnyH_take (i := 23) (v := ?v24) rfl (by kernel_rfl) (by kernel_rfl) (by kernel_rfl) (fun _ _ _ h => h) (Or.inl ⟨by rfl, ?y24⟩) (by assumption) ?r24
          case y24 => (intro w hSw; (try dsimp only at hSw); (try simp only [List.getElem_toArray, List.getElem_cons_zero, List.getElem_cons_succ]); go_simp; first | done | with_reducible rfl)
          (try simp only [Act.put, List.getElem_toArray, List.getElem_cons_zero, List.getElem_cons_succ, List.setIfInBounds_toArray, List.set_cons_zero, List.set_cons_succ])
          refine wpAnyH_ready (rs := [24]) (by kernel_rfl) (by simp) ?_
          refine AllReadyH.cons rfl (fun K hK => ?_) ?_
          · (try simp only [List.getElem_toArray, List.getElem_cons_zero, List.getElem_cons_succ])
            go_simp
            have hk := And.right ‹_ ∧ Kp wr _›
            refine (TR.out _ hk).mono ?_
            rintro e v2 ⟨A9, k9, c9, B9, j9, e9, rfl, hk9, hj9, hW9, hX9, -, -, hbx⟩
            have hp := Kp.trans hk hbx
            have r9 : RQ v2 rv A9 k9 c9 B9 j9 e9 := ⟨hk9, hj9, hW9, hX9⟩
            clear hk hbx hk9 hj9 hW9 hX9
            (try (go_wp2_with fail))
            refine hK.out _ _ ?k26 (fun hHeld26 => ?n26)
            case k26 => ((try dsimp only); first | (with_reducible refine HS.out _ ?_; with_reducible assumption) | (with_reducible refine HS.out _ (Kp.drew ?_); with_reducible assumption) | (with_reducible refine' HS.out _ (Kp.drew (And.right ?_)); rotate_left; with_reducible assumption))
            clear hK K
            (try simp only [Act.put, List.getElem_toArray, List.getElem_cons_zero, List.getElem_cons_succ, List.setIfInBounds_toArray, List.set_cons_zero, List.set_cons_succ])
            refine wpAnyH_ready (rs := [25]) (by kernel_rfl) (by simp) ?_
            refine AllReadyH.cons rfl (fun K hK => ?_) ?_
            · (try simp only [List.getElem_toArray, List.getElem_cons_zero, List.getElem_cons_succ])
              go_simp
              have hk := And.right ‹_ ∧ Kp wr _›
              refine (TE.out _ hk _ _ _ _ _ _ r9).mono ?_
              rintro e v3 ⟨rfl, hbx⟩
              have hp := Kp.trans hk hbx
              clear hk hbx r9
              (try (go_wp2_with fail))
              refine hK.out _ _ ?k28 (fun hHeld28 => ?n28)
              case k28 => ((try dsimp only); first | (with_reducible refine HS.out _ ?_; with_reducible assumption) | (with_reducible refine HS.out _ (Kp.drew ?_); with_reducible assumption) | (with_reducible refine' HS.out _ (Kp.drew (And.right ?_)); rotate_left; with_reducible assumption))
              clear hK K
              (try simp only [Act.put, List.getElem_toArray, List.getElem_cons_zero, List.getElem_cons_succ, List.setIfInBounds_toArray, List.set_cons_zero, List.set_cons_succ])
              refine wpAnyH_take (i := 26) (v := ?v29) rfl (by kernel_rfl) (by kernel_rfl) (by kernel_rfl) (fun _ _ _ h => h) (Or.inl ⟨by rfl, ?y29⟩) (by assumption) ?r29
              case y29 => (intro w hSw; (try dsimp only at hSw); (try simp only [List.getElem_toArray, List.getElem_cons_zero, List.getElem_cons_succ]); go_simp; first | done | with_reducible rfl)
              (try simp only [Act.put, List.getElem_toArray, List.getElem_cons_zero, List.getElem_cons_succ, List.setIfInBounds_toArray, List.set_cons_zero, List.set_cons_succ])
              refine wpAnyH_take (i := 27) (v := ?v30) rfl (by kernel_rfl) (by kernel_rfl) (by kernel_rfl) (fun _ _ _ h => h) (Or.inl ⟨by rfl, ?y30⟩) (by assumption) ?r30
              case y30 => (intro w hSw; (try dsimp only at hSw); (try simp only [List.getElem_toArray, List.getElem_cons_zero, List.getElem_cons_succ]); go_simp; first | done | with_reducible rfl)
              (try simp only [Act.put, List.getElem_toArray, List.getElem_cons_zero, List.getElem_cons_succ, List.setIfInBounds_toArray, List.set_cons_zero, List.set_cons_succ])
              refine wpAnyH_take (i := 28) (v := ?v31) rfl (by kernel_rfl) (by kernel_rfl) (by kernel_rfl) (fun _ _ _ h => h) (Or.inl ⟨by rfl, ?y31⟩) (by assumption) ?r31
              case y31 => (intro w hSw; (try dsimp only at hSw); (try simp only [List.getElem_toArray, List.getElem_cons_zero, List.getElem_cons_succ]); go_simp; first | done | with_reducible rfl)
              (try simp only [Act.put, List.getElem_toArray, List.getElem_cons_zero, List.getElem_cons_succ, List.setIfInBounds_toArray, List.set_cons_zero, List.set_cons_succ])
              refine wpAnyH_take (i := 29) (v := ?v32) rfl (by kernel_rfl) (by kernel_rfl) (by kernel_rfl) (fun _ _ _ h => h) (Or.inl ⟨by rfl, ?y32⟩) (by assumption) ?r32
              case y32 => (intro w hSw; (try dsimp only at hSw); (try simp only [List.getElem_toArray, List.getElem_cons_zero, List.getElem_cons_succ]); go_simp; first | done | with_reducible rfl)
              (try simp only [Act.put, List.getElem_toArray, List.getElem_cons_zero, List.getElem_cons_succ, List.setIfInBounds_toArray, List.set_cons_zero, List.set_cons_succ])
              refine wpAnyH_take (i := 30) (v := ?v33) rfl (by kernel_rfl) (by kernel_rfl) (by kernel_rfl) (fun _ _ _ h => h) (Or.inl ⟨by rfl, ?y33⟩) (by assumption) ?r33
              case y33 => (intro w hSw; (try dsimp only at hSw); (try simp only [List.getElem_toArray, List.getElem_cons_zero, List.getElem_cons_succ]); go_simp; first | done | with_reducible rfl)
              (try simp only [Act.put, List.getElem_toArray, List.getElem_cons_zero, List.getElem_cons_succ, List.setIfInBounds_toArray, List.set_cons_zero, List.set_cons_succ])
              refine wpAnyH_take (i := 31) (v := ?v34) rfl (by kernel_rfl) (by kernel_rfl) (by kernel_rfl) (fun _ _ _ h => h) (Or.inl ⟨by rfl, ?y34⟩) (by assumption) ?r34
              case y34 => (intro w hSw; (try dsimp only at hSw); (try simp only [List.getElem_toArray, List.getElem_cons_zero, List.getElem_cons_succ]); go_simp; first | done | with_reducible rfl)
              (try simp only [Act.put, List.getElem_toArray, List.getElem_cons_zero, List.getElem_cons_succ, List.setIfInBounds_toArray, List.set_cons_zero, List.set_cons_succ])
              refine wpAnyH_take (i := 32) (v := ?v35) rfl (by kernel_rfl) (by kernel_rfl) (by kernel_rfl) (fun _ _ _ h => h) (Or.inl ⟨by rfl, ?y35⟩) (by assumption) ?r35
              case y35 => (intro w hSw; (try dsimp only at hSw); (try simp only [List.getElem_toArray, List.getElem_cons_zero, List.getElem_cons_succ]); go_simp; first | done | with_reducible rfl)
              (try simp only [Act.put, List.getElem_toArray, List.getElem_cons_zero, List.getElem_cons_succ, List.setIfInBounds_toArray, List.set_cons_zero, List.set_cons_succ])
              refine wpAnyH_take (i := 33) (v := ?v36) rfl (by kernel_rfl) (by kernel_rfl) (by kernel_rfl) (fun _ _ _ h => h) (Or.inl ⟨by rfl, ?y36⟩) (by assumption) ?r36
              case y36 => (intro w hSw; (try dsimp only at hSw); (try simp only [List.getElem_toArray, List.getElem_cons_zero, List.getElem_cons_succ]); go_simp; first | done | with_reducible rfl)
              (try simp only [Act.put, List.getElem_toArray, List.getElem_cons_zero, List.getElem_cons_succ, List.setIfInBounds_toArray, List.set_cons_zero, List.set_cons_succ])
              refine wpAnyH_take (i := 34) (v := ?v37) rfl (by kernel_rfl) (by kernel_rfl) (by kernel_rfl) (fun _ _ _ h => h) (Or.inl ⟨by rfl, ?y37⟩) (by assumption) ?r37
              case y37 => (intro w hSw; (try dsimp only at hSw); (try simp only [List.getElem_toArray, List.getElem_cons_zero, List.getElem_cons_succ]); go_simp; first | done | with_reducible rfl)
              (try simp only [Act.put, List.getElem_toArray, List.getElem_cons_zero, List.getElem_cons_succ, List.setIfInBounds_toArray, List.set_cons_zero, List.set_cons_succ])
              refine wpAnyH_take (i := 35) (v := ?v38) rfl (by kernel_rfl) (by kernel_rfl) (by kernel_rfl) (fun _ _ _ h => h) (Or.inl ⟨by rfl, ?y38⟩) (by assumption) ?r38
              case y38 => (intro w hSw; (try dsimp only at hSw); (try simp only [List.getElem_toArray, List.getElem_cons_zero, List.getElem_cons_succ]); go_simp; first | done | with_reducible rfl)
              (try simp only [Act.put, List.getElem_toArray, List.getElem_cons_zero, List.getElem_cons_succ, List.setIfInBounds_toArray, List.set_cons_zero, List.set_cons_succ])
              refine wpAnyH_take (i := 36) (v := ?v39) rfl (by kernel_rfl) (by kernel_rfl) (by kernel_rfl) (fun _ _ _ h => h) (Or.inl ⟨by rfl, ?y39⟩) (by assumption) ?r39
              case y39 => (intro w hSw; (try dsimp only at hSw); (try simp only [List.getElem_toArray, List.getElem_cons_zero, List.getElem_cons_succ]); go_simp; first | done | with_reducible rfl)
              (try simp only [Act.put, List.getElem_toArray, List.getElem_cons_zero, List.getElem_cons_succ, List.setIfInBounds_toArray, List.set_cons_zero, List.set_cons_succ])
              refine wpAnyH_take (i := 37) (v := undef) rfl (by kernel_rfl) (by kernel_rfl) (by kernel_rfl) (fun _ _ _ h => h) (Or.inr ⟨by rfl, rfl⟩) (by assumption) ?_
              (try simp only [Act.put, List.getElem_toArray, List.getElem_cons_zero, List.getElem_cons_succ, List.setIfInBounds_toArray, List.set_cons_zero, List.set_cons_succ])
              refine wpAnyH_take (i := 38) (v := ?v41) rfl (by kernel_rfl) (by kernel_rfl) (by kernel_rfl) (fun _ _ _ h => h) (Or.inl ⟨by rfl, ?y41⟩) (by assumption) ?r41
              case y41 => (intro w hSw; (try dsimp only at hSw); (try simp only [List.getElem_toArray, List.getElem_cons_zero, List.getElem_cons_succ]); go_simp; first | done | with_reducible rfl)
              (try simp only [Act.put, List.getElem_toArray, List.getElem_cons_zero, List.getElem_cons_succ, List.setIfInBounds_toArray, List.set_cons_zero, List.set_cons_succ])
              refine wpAnyH_take (i := 39) (v := ?v42) rfl (by kernel_rfl) (by kernel_rfl) (by kernel_rfl) (fun _ _ _ h => h) (Or.inl ⟨by rfl, ?y42⟩) (by assumption) ?r42
              case y42 => (intro w hSw; (try dsimp only at hSw); (try simp only [List.getElem_toArray, List.getElem_cons_zero, List.getElem_cons_succ]); go_simp; first | done | with_reducible rfl)
              (try simp only [Act.put, List.getElem_toArray, List.getElem_cons_zero, List.getElem_cons_succ, List.setIfInBounds_toArray, List.set_cons_zero, List.set_cons_succ])
              refine wpAnyH_take (i := 40) (v := ?v43) rfl (by kernel_rfl) (by kernel_rfl) (by kernel_rfl) (fun _ _ _ h => h) (Or.inl ⟨by rfl, ?y43⟩) (by assumption) ?r43
              case y43 => (intro w hSw; (try dsimp only at hSw); (try simp only [List.getElem_toArray, List.getElem_cons_zero, List.getElem_cons_succ]); go_simp; first | done | with_reducible rfl)
              (try simp only [Act.put, List.getElem_toArray, List.getElem_cons_zero, List.getElem_cons_succ, List.setIfInBounds_toArray, List.set_cons_zero, List.set_cons_succ])
              refine wpAnyH_take (i := 41) (v := ?v44) rfl (by kernel_rfl) (by kernel_rfl) (by kernel_rfl) (fun _ _ _ h => h) (Or.inl ⟨by rfl, ?y44⟩) (by assumption) ?r44
              case y44 => (intro w hSw; (try dsimp only at hSw); (try simp only [List.getElem_toArray, List.getElem_cons_zero, List.getElem_cons_succ]); go_simp; first | done | with_reducible rfl)
              (try simp only [Act.put, List.getElem_toArray, List.getElem_cons_zero, List.getElem_cons_succ, List.setIfInBounds_toArray, List.set_cons_zero, List.set_cons_succ])
              refine wpAnyH_take (i := 42) (v := ?v45) rfl (by kernel_rfl) (by kernel_rfl) (by kernel_rfl) (fun _ _ _ h => h) (Or.inl ⟨by rfl, ?y45⟩) (by assumption) ?r45
              case y45 => (intro w hSw; (try dsimp only at hSw); (try simp only [List.getElem_toArray, List.getElem_cons_zero, List.getElem_cons_succ]); go_simp; first | done | with_reducible rfl)
              (try simp only [Act.put, List.getElem_toArray, List.getElem_cons_zero, List.getElem_cons_succ, List.setIfInBounds_toArray, List.set_cons_zero, List.set_cons_succ])
              refine wpAnyH_take (i := 43) (v := ?v46) rfl (by kernel_rfl) (by kernel_rfl) (by kernel_rfl) (fun _ _ _ h => h) (Or.inl ⟨by rfl, ?y46⟩) (by assumption) ?r46
              case y46 => (intro w hSw; (try dsimp only at hSw); (try simp only [List.getElem_toArray, List.getElem_cons_zero, List.getElem_cons_succ]); go_simp; first | done | with_reducible rfl)
              (try simp only [Act.put, List.getElem_toArray, List.getElem_cons_zero, List.getElem_cons_succ, List.setIfInBounds_toArray, List.set_cons_zero, List.set_cons_succ])
              refine wpAnyH_take (i := 44) (v := ?v47) rfl (by kernel_rfl) (by kernel_rfl) (by kernel_rfl) (fun _ _ _ h => h) (Or.inl ⟨by rfl, ?y47⟩) (by assumption) ?r47
              case y47 => (intro w hSw; (try dsimp only at hSw); (try simp only [List.getElem_toArray, List.getElem_cons_zero, List.getElem_cons_succ]); go_simp; first | done | with_reducible rfl)
              (try simp only [Act.put, List.getElem_toArray, List.getElem_cons_zero, List.getElem_cons_succ, List.setIfInBounds_toArray, List.set_cons_zero, List.set_cons_succ])
              refine wpAnyH_take (i := 45) (v := ?v48) rfl (by kernel_rfl) (by kernel_rfl) (by kernel_rfl) (fun _ _ _ h => h) (Or.inl ⟨by rfl, ?y48⟩) (by assumption) ?r48
              case y48 => (intro w hSw; (try dsimp only at hSw); (try simp only [List.getElem_toArray, List.getElem_cons_zero, List.getElem_cons_succ]); go_simp; first | done | with_reducible rfl)
              (try simp only [Act.put, List.getElem_toArray, List.getElem_cons_zero, List.getElem_cons_succ, List.setIfInBounds_toArray, List.set_cons_zero, List.set_cons_succ])
              refine wpAnyH_take (i := 46) (v := ?v49) rfl (by kernel_rfl) (by kernel_rfl) (by kernel_rfl) (fun _ _ _ h => h) (Or.inl ⟨by rfl, ?y49⟩) (by assumption) ?r49
              case y49 => (intro w hSw; (try dsimp only at hSw); (try simp only [List.getElem_toArray, List.getElem_cons_zero, List.getElem_cons_succ]); go_simp; first | done | with_reducible rfl)
              (try simp only [Act.put, List.getElem_toArray, List.getElem_cons_zero, List.getElem_cons_succ, List.setIfInBounds_toArray, List.set_cons_zero, List.set_cons_succ])
              refine wpAnyH_take (i := 47) (v := ?v50) rfl (by kernel_rfl) (by kernel_rfl) (by kernel_rfl) (fun _ _ _ h => h) (Or.inl ⟨by rfl, ?y50⟩) (by assumption) ?r50
              case y50 => (intro w hSw; (try dsimp only at hSw); (try simp only [List.getElem_toArray, List.getElem_cons_zero, List.getElem_cons_succ]); go_simp; first | done | with_reducible rfl)
              (try simp only [Act.put, List.getElem_toArray, List.getElem_cons_zero, List.getElem_cons_succ, List.setIfInBounds_toArray, List.set_cons_zero, List.set_cons_succ])
              refine wpAnyH_take (i := 48) (v := ?v51) rfl (by kernel_rfl) (by kernel_rfl) (by kernel_rfl) (fun _ _ _ h => h) (Or.inl ⟨by rfl, ?y51⟩) (by assumption) ?r51
              case y51 => (intro w hSw; (try dsimp only at hSw); (try simp only [List.getElem_toArray, List.getElem_cons_zero, List.getElem_cons_succ]); go_simp; first | done | with_reducible rfl)
              (try simp only [Act.put, List.getElem_toArray, List.getElem_cons_zero, List.getElem_cons_succ, List.setIfInBounds_toArray, List.set_cons_zero, List.set_cons_succ])
              refine wpAnyH_take (i := 49) (v := ?v52) rfl (by kernel_rfl) (by kernel_rfl) (by kernel_rfl) (fun _ _ _ h => h) (Or.inl ⟨by rfl, ?y52⟩) (by assumption) ?r52
              case y52 => (intro w hSw; (try dsimp only at hSw); (try simp only [List.getElem_toArray, List.getElem_cons_zero, List.getElem_cons_succ]); go_simp; first | done | with_reducible rfl)
              (try simp only [Act.put, List.getElem_toArray, List.getElem_cons_zero, List.getElem_cons_succ, List.setIfInBounds_toArray, List.set_cons_zero, List.set_cons_succ])
              refine wpAnyH_take (i := 50) (v := ?v53) rfl (by kernel_rfl) (by kernel_rfl) (by kernel_rfl) (fun _ _ _ h => h) (Or.inl ⟨by rfl, ?y53⟩) (by assumption) ?r53
              case y53 => (intro w hSw; (try dsimp only at hSw); (try simp only [List.getElem_toArray, List.getElem_cons_zero, List.getElem_cons_succ]); go_simp; first | done | with_reducible rfl)
              (try simp only [Act.put, List.getElem_toArray, List.getElem_cons_zero, List.getElem_cons_succ, List.setIfInBounds_toArray, List.set_cons_zero, List.set_cons_succ])
              refine wpAnyH_take (i := 51) (v := ?v54) rfl (by kernel_rfl) (by kernel_rfl) (by kernel_rfl) (fun _ _ _ h => h) (Or.inl ⟨by rfl, ?y54⟩) (by assumption) ?r54
              case y54 => (intro w hSw; (try dsimp only at hSw); (try simp only [List.getElem_toArray, List.getElem_cons_zero, List.getElem_cons_succ]); go_simp; first | done | with_reducible rfl)
              (try simp only [Act.put, List.getElem_toArray, List.getElem_cons_zero, List.getElem_cons_succ, List.setIfInBounds_toArray, List.set_cons_zero, List.set_cons_succ])
              refine wpAnyH_take (i := 52) (v := ?v55) rfl (by kernel_rfl) (by kernel_rfl) (by kernel_rfl) (fun _ _ _ h => h) (Or.inl ⟨by rfl, ?y55⟩) (by assumption) ?r55
              case y55 => (intro w hSw; (try dsimp only at hSw); (try simp only [List.getElem_toArray, List.getElem_cons_zero, List.getElem_cons_succ]); go_simp; first | done | with_reducible rfl)
              (try simp only [Act.put, List.getElem_toArray, List.getElem_cons_zero, List.getElem_cons_succ, List.setIfInBounds_toArray, List.set_cons_zero, List.set_cons_succ])
              refine wpAnyH_take (i := 53) (v := ?v56) rfl (by kernel_rfl) (by kernel_rfl) (by kernel_rfl) (fun _ _ _ h => h) (Or.inl ⟨by rfl, ?y56⟩) (by assumption) ?r56
              case y56 => (intro w hSw; (try dsimp only at hSw); (try simp only [List.getElem_toArray, List.getElem_cons_zero, List.getElem_cons_succ]); go_simp; first | done | with_reducible rfl)
              (try simp only [Act.put, List.getElem_toArray, List.getElem_cons_zero, List.getElem_cons_succ, List.setIfInBounds_toArray, List.set_cons_zero, List.set_cons_succ])
              refine wpAnyH_ready (rs := [54]) (by kernel_rfl) (by simp) ?_
              refine AllReadyH.cons rfl (fun K hK => ?_) ?_
              · (try simp only [List.getElem_toArray, List.getElem_cons_zero, List.getElem_cons_succ])
                go_simp
                have hk := And.right ‹_ ∧ Kp wr _›
                refine (TF.out _).mono ?_
                rintro e v4 ⟨A9, k9, c9, B9, j9, e9, rfl, hk9, hj9, hW9, hX9, -, -, hbx⟩
                have hp := Kp.trans hk hbx
                have r9 : RQ v4 fs A9 k9 c9 B9 j9 e9 := ⟨hk9, hj9, hW9, hX9⟩
                clear hk hbx hk9 hj9 hW9 hX9
                (try (go_wp2_with fail))
                refine hK.out _ _ ?k58 (fun hHeld58 => ?n58)
                case k58 => ((try dsimp only); first | (with_reducible refine HS.out _ ?_; with_reducible assumption) | (with_reducible refine HS.out _ (Kp.drew ?_); with_reducible assumption) | (with_reducible refine' HS.out _ (Kp.drew (And.right ?_)); rotate_left; with_reducible assumption))
                clear hK K
                (try simp only [Act.put, List.getElem_toArray, List.getElem_cons_zero, List.getElem_cons_succ, List.setIfInBounds_toArray, List.set_cons_zero, List.set_cons_succ])
                refine wpAnyH_ready (rs := [55]) (by kernel_rfl) (by simp) ?_
                refine AllReadyH.cons rfl (fun K hK => ?_) ?_
                · (try simp only [List.getElem_toArray, List.getElem_cons_zero, List.getElem_cons_succ])
                  go_simp
                  have hk := And.right ‹_ ∧ Kp wr _›
                  refine (TM.out _ hk _ _ _ _ _ _ r9).mono ?_
                  rintro e v5 ⟨A9, k9, c9, B9, j9, e9, rfl, hk9, hj9, hW9, hX9, -, -, hbx⟩
                  have hp := Kp.trans hk hbx
                  have r9 : RQ v5 tm A9 k9 c9 B9 j9 e9 := ⟨hk9, hj9, hW9, hX9⟩
                  clear hk hbx hk9 hj9 hW9 hX9
                  (try (go_wp2_with fail))
                  refine hK.out _ _ ?k60 (fun hHeld60 => ?n60)
                  case k60 => ((try dsimp only); first | (with_reducible refine HS.out _ ?_; with_reducible assumption) | (with_reducible refine HS.out _ (Kp.drew ?_); with_reducible assumption) | (with_reducible refine' HS.out _ (Kp.drew (And.right ?_)); rotate_left; with_reducible assumption))
                  clear hK K
                  (try simp only [Act.put, List.getElem_toArray, List.getElem_cons_zero, List.getElem_cons_succ, List.setIfInBounds_toArray, List.set_cons_zero, List.set_cons_succ])
                  refine wpAnyH_ready (rs := [56]) (by kernel_rfl) (by simp) ?_
                  refine AllReadyH.cons rfl (fun K hK => ?_) ?_
                  · (try simp only [List.getElem_toArray, List.getElem_cons_zero, List.getElem_cons_succ])
                    go_simp
                    have hk := And.right ‹_ ∧ Kp wr _›
                    refine (TC.out _ hk _ _ _ _ _ _ r9).mono ?_
                    rintro e v6 ⟨rfl, hbx⟩
                    have hp := Kp.trans hk hbx
                    clear hk hbx r9
                    (try (go_wp2_with fail))
                    refine hK.out _ _ ?k62 (fun hHeld62 => ?n62)
                    case k62 => ((try dsimp only); first | (with_reducible refine HS.out _ ?_; with_reducible assumption) | (with_reducible refine HS.out _ (Kp.drew ?_); with_reducible assumption) | (with_reducible refine' HS.out _ (Kp.drew (And.right ?_)); rotate_left; with_reducible assumption))
                    clear hK K
                    (try simp only [Act.put, List.getElem_toArray, List.getElem_cons_zero, List.getElem_cons_succ, List.setIfInBounds_toArray, List.set_cons_zero, List.set_cons_succ])
                    refine wpAnyH_take (i := 57) (v := ?v63) rfl (by kernel_rfl) (by kernel_rfl) (by kernel_rfl) (fun _ _ _ h => h) (Or.inl ⟨by rfl, ?y63⟩) (by assumption) ?r63
                    case y63 => (intro w hSw; (try dsimp only at hSw); (try simp only [List.getElem_toArray, List.getElem_cons_zero, List.getElem_cons_succ]); go_simp; first | done | with_reducible rfl)
                    (try simp only [Act.put, List.getElem_toArray, List.getElem_cons_zero, List.getElem_cons_succ, List.setIfInBounds_toArray, List.set_cons_zero, List.set_cons_succ])
                    refine wpAnyH_take (i := 58) (v := ?v64) rfl (by kernel_rfl) (by kernel_rfl) (by kernel_rfl) (fun _ _ _ h => h) (Or.inl ⟨by rfl, ?y64⟩) (by assumption) ?r64
                    case y64 => (intro w hSw; (try dsimp only at hSw); (try simp only [List.getElem_toArray, List.getElem_cons_zero, List.getElem_cons_succ]); go_simp; first | done | with_reducible rfl)
                    (try simp only [Act.put, List.getElem_toArray, List.getElem_cons_zero, List.getElem_cons_succ, List.setIfInBounds_toArray, List.set_cons_zero, List.set_cons_succ])
                    refine wpAnyH_done (by kernel_rfl) ?_ _
                    have hb6 := HSUM.out.below hp HSUM.out.lt
                    obtain ⟨s0, s1, s2, s3, r0, r1, r2, r3⟩ := hb6.four
                    obtain ⟨y0, y1, y2, y3⟩ := hyc.out v6 hp
                    have HP6 := Lib.hid hp
                    have HB6 := Lib.hid hb6
                    have s6 := Kp.refl v6
                    clear hp hb6
                    generalize hsm2 : sm + te = sm2 at *
                    have HSM2 := Lib.hid hsm2
                    clear hsm2
                    go_upto_region 16 with fail
                    go_region_with (first | (go_at_call 30; refine (TADD.out _ (Kp.trans HP6.out (Kp.drew s6))).mono ?_; rintro e v8 ⟨B5, q5, e5, B6, q6, e6, rfl, hk5, hk6, hW5, hW6, hF5, hF6, hb4⟩; have hp4 : Kp v6 v8 := Kp.trans (Kp.drew s6) hb4; obtain ⟨i0, i1', i2', i3', i4', i5', i6', i7'⟩ := (Kp.blk hp4 HB6.out).four; clear hb4))
                    all_goals
                      have e8 : (((v8.setCell ⟨w5.heap.size, 0, none⟩ (.bool (decide (sm2.num < 0)))).setCell ⟨w5.heap.size, 1, none⟩ (.slice B5 q5 e5)).setCell ⟨w5.heap.size, 2, none⟩ (.bool false)).setCell ⟨w5.heap.size, 3, none⟩ (.slice B6 q6 e6) = qst v8 w5.heap.size 0 (decide (sm2.num < 0)) false B5 B6 q5 e5 q6 e6 := rfl
                      rw [e8]
                      have hx8 := Kp.blk hp4 HB6.out
                      have hfin : PrI w5.heap.size V (p1 : Rat) t1 (i + 1) (qst v8 w5.heap.size 0 (decide (sm2.num < 0)) false B5 B6 q5 e5 q6 e6) := by
                        have e9 : (pyS (p1 : Rat) t1 (i + 1)).2 = sm2 := by first | exact h9.out.2 | (rw [h9.out.2]; exact HSM2.out)
                        refine ⟨below_qst ((h9.out.1.trans (Below.mono (Kp.trans HP6.out hp4) (by have := HSUM.out.lt; omega)))) (Nat.le_refl _), B5, q5, e5, B6, q6, e6, ?_, ?_⟩
                        · rw [e9]; exact hx8.put4
                        · rw [e9]; exact RQ.put4 ⟨hk5, hk6, hW5, hW6⟩ hx8 NoInt.four
                      have HF := Lib.hid hfin
                      generalize qst v8 w5.heap.size 0 (decide (sm2.num < 0)) false B5 B6 q5 e5 q6 e6 = W8 at *
                      clear e8 hfin hx8 hk5 hk6 hW5 hW6 hF5 hF6 i0 i1' i2' i3' i4' i5' i6' i7' hp4 s0 s1 s2 s3 y0 y1 y2 y3 r0 r1 r2 r3
                      go_wp2
                      go_roundw
                      case rel => exact ⟨i + 1, by omega, by first | rfl | go_num, HF.out⟩
                      case measure => simp [intOf]; omega
                  exact AllReadyH.nil
                exact AllReadyH.nil
              exact AllReadyH.nil
            exact AllReadyH.nil
          exact AllReadyH.nil
        · have d1 : decide (spin < p1) = false := decide_eq_false (by omega)
          have d2 : decide (p1 < spin) = false := decide_eq_false (by omega)
          clear hc M2 M3 HSG
          go_wp2_with fail
          refine TS0.out.mono ?_
          rintro e v0 ⟨rfl, hb0⟩
          have hk0 : Kp wr v0 := hb0
          clear hb0 x0 x1 x2 x3
          go_wp2_with fail
          refine wp_region_held_drew (S := fun w' => (w'.cell? ⟨ga, i * 4, none⟩ = some (.bool (decide (ta.num < 0))) ∧ w'.cell? ⟨ga, i * 4 + 1, none⟩ = some (.slice A5 k5 c5) ∧ w'.cell? ⟨ga, i * 4 + 2, none⟩ = some (.bool false) ∧ w'.cell? ⟨ga, i * 4 + 3, none⟩ = some (.slice A6 k6 c6) ∧ w'.cell? ⟨gE, i * 4, none⟩ = some (.bool (decide (te.num < 0))) ∧ w'.cell? ⟨gE, i * 4 + 1, none⟩ = some (.slice A7 k7 c7) ∧ w'.cell? ⟨gE, i * 4 + 2, none⟩ = some (.bool false) ∧ w'.cell? ⟨gE, i * 4 + 3, none⟩ = some (.slice A8 k8 c8) ∧ w'.cell? ⟨b, o + i * 9, none⟩ = some (.int .i64 bus) ∧ w'.cell? ⟨b, o + i * 9 + 1, none⟩ = some (.int .i64 mn) ∧ w'.cell? ⟨b, o + i * 9 + 2, none⟩ = some (.slice A' n' c') ∧ w'.cell? ⟨b, o + i * 9 + 3, none⟩ = some (.int .i64 up) ∧ w'.cell? ⟨b, o + i * 9 + 4, none⟩ = some (.int .i64 dn) ∧ w'.cell? ⟨b, o + i * 9 + 5, none⟩ = some (.int .i64 start) ∧ w'.cell? ⟨b, o + i * 9 + 6, none⟩ = some (.int .i64 idle) ∧ w'.cell? ⟨b, o + i * 9 + 7, none⟩ = some (.int .i64 spin) ∧ w'.cell? ⟨b, o + i * 9 + 8, none⟩ = some (.int .i64 on) ∧ w'.cell? ⟨b', o' + i, none⟩ = some (.bool bk) ∧ w'.cell? ⟨b2, o2 + i * 4, none⟩ = some (.bool an) ∧ w'.cell? ⟨b2, o2 + i * 4 + 1, none⟩ = some (.slice aA ak ac) ∧ w'.cell? ⟨b2, o2 + i * 4 + 2, none⟩ = some (.bool an') ∧ w'.cell? ⟨b2, o2 + i * 4 + 3, none⟩ = some (.slice aA' ak' ac')) ∧ Kp wr w') (by kernel_rfl) (HS.out _ (Kp.drew hk0)) (fun hHeld => ?_)
          refine wpAnyH_take (i := 0) (v := ?v65) rfl (by kernel_rfl) (by kernel_rfl) (by kernel_rfl) (fun _ _ _ h => h) (Or.inl ⟨by rfl, ?y65⟩) (by assumption) ?r65
          case y65 => (intro w hSw; (try dsimp only at hSw); (try simp only [List.getElem_toArray, List.getElem_cons_zero, List.getElem_cons_succ]); go_simp; first | done | with_reducible rfl)
          (try simp only [Act.put, List.getElem_toArray, List.getElem_cons_zero, List.getElem_cons_succ, List.setIfInBounds_toArray, List.set_cons_zero, List.set_cons_succ])
          refine wpAnyH_take (i := 1) (v := ?v66) rfl (by kernel_rfl) (by kernel_rfl) (by kernel_rfl) (fun _ _ _ h => h) (Or.inl ⟨by rfl, ?y66⟩) (by assumption) ?r66
          case y66 => (intro w hSw; (try dsimp only at hSw); (try simp only [List.getElem_toArray, List.getElem_cons_zero, List.getElem_cons_succ]); go_simp; first | done | with_reducible rfl)
          (try simp only [Act.put, List.getElem_toArray, List.getElem_cons_zero, List.getElem_cons_succ, List.setIfInBounds_toArray, List.set_cons_zero, List.set_cons_succ])
          refine wpAnyH_take (i := 2) (v := ?v67) rfl (by kernel_rfl) (by kernel_rfl) (by kernel_rfl) (fun _ _ _ h => h) (Or.inl ⟨by rfl, ?y67⟩) (by assumption) ?r67
          case y67 => (intro w hSw; (try dsimp only at hSw); (try simp only [List.getElem_toArray, List.getElem_cons_zero, List.getElem_cons_succ]); go_simp; first | done | with_reducible rfl)
          (try simp only [Act.put, List.getElem_toArray, List.getElem_cons_zero, List.getElem_cons_succ, List.setIfInBounds_toArray, List.set_cons_zero, List.set_cons_succ])
          refine wpAnyH_take (i := 3) (v := ?v68) rfl (by kernel_rfl) (by kernel_rfl) (by kernel_rfl) (fun _ _ _ h => h) (Or.inl ⟨by rfl, ?y68⟩) (by assumption) ?r68
          case y68 => (intro w hSw; (try dsimp only at hSw); (try simp only [List.getElem_toArray, List.getElem_cons_zero, List.getElem_cons_succ]); go_simp; first | done | with_reducible rfl)
          (try simp only [Act.put, List.getElem_toArray, List.getElem_cons_zero, List.getElem_cons_succ, List.setIfInBounds_toArray, List.set_cons_zero, List.set_cons_succ])
          refine wpAnyH_take (i := 4) (v := ?v69) rfl (by kernel_rfl) (by kernel_rfl) (by kernel_rfl) (fun _ _ _ h => h) (Or.inl ⟨by rfl, ?y69⟩) (by assumption) ?r69
          case y69 => (intro w hSw; (try dsimp only at hSw); (try simp only [List.getElem_toArray, List.getElem_cons_zero, List.getElem_cons_succ]); go_simp; first | done | with_reducible rfl)
          (try simp only [Act.put, List.getElem_toArray, List.getElem_cons_zero, List.getElem_cons_succ, List.setIfInBounds_toArray, List.set_cons_zero, List.set_cons_succ])
          refine wpAnyH_take (i := 5) (v := ?v70) rfl (by kernel_rfl) (by kernel_rfl) (by kernel_rfl) (fun _ _ _ h => h) (Or.inl ⟨by rfl, ?y70⟩) (by assumption) ?r70
          case y70 => (intro w hSw; (try dsimp only at hSw); (try simp only [List.getElem_toArray, List.getElem_cons_zero, List.getElem_cons_succ]); go_simp; first | done | with_reducible rfl)
          (try simp only [Act.put, List.getElem_toArray, List.getElem_cons_zero, List.getElem_cons_succ, List.setIfInBounds_toArray, List.set_cons_zero, List.set_cons_succ])
          refine wpAnyH_take (i := 6) (v := ?v71) rfl (by kernel_rfl) (by kernel_rfl) (by kernel_rfl) (fun _ _ _ h => h) (Or.inl ⟨by rfl, ?y71⟩) (by assumption) ?r71
          case y71 => (intro w hSw; (try dsimp only at hSw); (try simp only [List.getElem_toArray, List.getElem_cons_zero, List.getElem_cons_succ]); go_simp; first | done | with_reducible rfl)
          (try simp only [Act.put, List.getElem_toArray, List.getElem_cons_zero, List.getElem_cons_succ, List.setIfInBounds_toArray, List.set_cons_zero, List.set_cons_succ])
          refine wpAnyH_take (i := 7) (v := ?v72) rfl (by kernel_rfl) (by kernel_rfl) (by kernel_rfl) (fun _ _ _ h => h) (Or.inl ⟨by rfl, ?y72⟩) (by assumption) ?r72
          case y72 => (intro w hSw; (try dsimp only at hSw); (try simp only [List.getElem_toArray, List.getElem_cons_zero, List.getElem_cons_succ]); go_simp; first | done | with_reducible rfl)
          (try simp only [Act.put, List.getElem_toArray, List.getElem_cons_zero, List.getElem_cons_succ, List.setIfInBounds_toArray, List.set_cons_zero, List.set_cons_succ])
          refine wpAnyH_take (i := 8) (v := undef) rfl (by kernel_rfl) (by kernel_rfl) (by kernel_rfl) (fun _ _ _ h => h) (Or.inr ⟨by rfl, rfl⟩) (by assumption) ?_
          (try simp only [Act.put, List.getElem_toArray, List.getElem_cons_zero, List.getElem_cons_succ, List.setIfInBounds_toArray, List.set_cons_zero, List.set_cons_succ])
          refine wpAnyH_take (i := 9) (v := undef) rfl (by kernel_rfl) (by kernel_rfl) (by kernel_rfl) (fun _ _ _ h => h) (Or.inr ⟨by rfl, rfl⟩) (by assumption) ?_
          (try simp only [Act.put, List.getElem_toArray, List.getElem_cons_zero, List.getElem_cons_succ, List.setIfInBounds_toArray, List.set_cons_zero, List.set_cons_succ])
          refine wpAnyH_take (i := 10) (v := undef) rfl (by kernel_rfl) (by kernel_rfl) (by kernel_rfl) (fun _ _ _ h => h) (Or.inr ⟨by rfl, rfl⟩) (by assumption) ?_
          (try simp only [Act.put, List.getElem_toArray, List.getElem_cons_zero, List.getElem_cons_succ, List.setIfInBounds_toArray, List.set_cons_zero, List.set_cons_succ])
          refine wpAnyH_take (i := 11) (v := undef) rfl (by kernel_rfl) (by kernel_rfl) (by kernel_rfl) (fun _ _ _ h => h) (Or.inr ⟨by rfl, rfl⟩) (by assumption) ?_
          (try simp only [Act.put, List.getElem_toArray, List.getElem_cons_zero, List.getElem_cons_succ, List.setIfInBounds_toArray, List.set_cons_zero, List.set_cons_succ])
          refine wpAnyH_take (i := 12) (v := undef) rfl (by kernel_rfl) (by kernel_rfl) (by kernel_rfl) (fun _ _ _ h => h) (Or.inr ⟨by rfl, rfl⟩) (by assumption) ?_
          (try simp only [Act.put, List.getElem_toArray, List.getElem_cons_zero, List.getElem_cons_succ, List.setIfInBounds_toArray, List.set_cons_zero, List.set_cons_succ])
          refine wpAnyH_take (i := 13) (v := undef) rfl (by kernel_rfl) (by kernel_rfl) (by kernel_rfl) (fun _ _ _ h => h) (Or.inr ⟨by rfl, rfl⟩) (by assumption) ?_
          (try simp only [Act.put, List.getElem_toArray, List.getElem_cons_zero, List.getElem_cons_succ, List.setIfInBounds_toArray, List.set_cons_zero, List.set_cons_succ])
          refine wpAnyH_take (i := 14) (v := undef) rfl (by kernel_rfl) (by kernel_rfl) (by kernel_rfl) (fun _ _ _ h => h) (Or.inr ⟨by rfl, rfl⟩) (by assumption) ?_
          (try simp only [Act.put, List.getElem_toArray, List.getElem_cons_zero, List.getElem_cons_succ, List.setIfInBounds_toArray, List.set_cons_zero, List.set_cons_succ])
          refine wpAnyH_take (i := 15) (v := undef) rfl (by kernel_rfl) (by kernel_rfl) (by kernel_rfl) (fun _ _ _ h => h) (Or.inr ⟨by rfl, rfl⟩) (by assumption) ?_
          (try simp only [Act.put, List.getElem_toArray, List.getElem_cons_zero, List.getElem_cons_succ, List.setIfInBounds_toArray, List.set_cons_zero, List.set_cons_succ])
          refine wpAnyH_take (i := 16) (v := undef) rfl (by kernel_rfl) (by kernel_rfl) (by kernel_rfl) (fun _ _ _ h => h) (Or.inr ⟨by rfl, rfl⟩) (by assumption) ?_
          (try simp only [Act.put, List.getElem_toArray, List.getElem_cons_zero, List.getElem_cons_succ, List.setIfInBounds_toArray, List.set_cons_zero, List.set_cons_succ])
          refine wpAnyH_take (i := 17) (v := undef) rfl (by kernel_rfl) (by kernel_rfl) (by kernel_rfl) (fun _ _ _ h => h) (Or.inr ⟨by rfl, rfl⟩) (by assumption) ?_
          (try simp only [Act.put, List.getElem_toArray, List.getElem_cons_zero, List.getElem_cons_succ, List.setIfInBounds_toArray, List.set_cons_zero, List.set_cons_succ])
          refine wpAnyH_take (i := 18) (v := undef) rfl (by kernel_rfl) (by kernel_rfl) (by kernel_rfl) (fun _ _ _ h => h) (Or.inr ⟨by rfl, rfl⟩) (by assumption) ?_
          (try simp only [Act.put, List.getElem_toArray, List.getElem_cons_zero, List.getElem_cons_succ, List.setIfInBounds_toArray, List.set_cons_zero, List.set_cons_succ])
          refine wpAnyH_take (i := 19) (v := undef) rfl (by kernel_rfl) (by kernel_rfl) (by kernel_rfl) (fun _ _ _ h => h) (Or.inr ⟨by rfl, rfl⟩) (by assumption) ?_
          (try simp only [Act.put, List.getElem_toArray, List.getElem_cons_zero, List.getElem_cons_succ, List.setIfInBounds_toArray, List.set_cons_zero, List.set_cons_succ])
          refine wpAnyH_take (i := 20) (v := undef) rfl (by kernel_rfl) (by kernel_rfl) (by kernel_rfl) (fun _ _ _ h => h) (Or.inr ⟨by rfl, rfl⟩) (by assumption) ?_
          (try simp only [Act.put, List.getElem_toArray, List.getElem_cons_zero, List.getElem_cons_succ, List.setIfInBounds_toArray, List.set_cons_zero, List.set_cons_succ])
          refine wpAnyH_take (i := 21) (v := undef) rfl (by kernel_rfl) (by kernel_rfl) (by kernel_rfl) (fun _ _ _ h => h) (Or.inr ⟨by rfl, rfl⟩) (by assumption) ?_
          (try simp only [Act.put, List.getElem_toArray, List.getElem_cons_zero, List.getElem_cons_succ, List.setIfInBounds_toArray, List.set_cons_zero, List.set_cons_succ])
          refine wpAnyH_take (i := 22) (v := undef) rfl (by kernel_rfl) (by kernel_rfl) (by kernel_rfl) (fun _ _ _ h => h) (Or.inr ⟨by rfl, rfl⟩) (by assumption) ?_
          (try simp only [Act.put, List.getElem_toArray, List.getElem_cons_zero, List.getElem_cons_succ, List.setIfInBounds_toArray, List.set_cons_zero, List.set_cons_succ])
          refine wpAnyH_take (i := 23) (v := undef) rfl (by kernel_rfl) (by kernel_rfl) (by kernel_rfl) (fun _ _ _ h => h) (Or.inr ⟨by rfl, rfl⟩) (by assumption) ?_
          (try simp only [Act.put, List.getElem_toArray, List.getElem_cons_zero, List.getElem_cons_succ, List.setIfInBounds_toArray, List.set_cons_zero, List.set_cons_succ])
          refine wpAnyH_take (i := 24) (v := undef) rfl (by kernel_rfl) (by kernel_rfl) (by kernel_rfl) (fun _ _ _ h => h) (Or.inr ⟨by rfl, rfl⟩) (by assumption) ?_
          (try simp only [Act.put, List.getElem_toArray, List.getElem_cons_zero, List.getElem_cons_succ, List.setIfInBounds_toArray, List.set_cons_zero, List.set_cons_succ])
          refine wpAnyH_take (i := 25) (v := undef) rfl (by kernel_rfl) (by kernel_rfl) (by kernel_rfl) (fun _ _ _ h => h) (Or.inr ⟨by rfl, rfl⟩) (by assumption) ?_
          (try simp only [Act.put, List.getElem_toArray, List.getElem_cons_zero, List.getElem_cons_succ, List.setIfInBounds_toArray, List.set_cons_zero, List.set_cons_succ])
          refine wpAnyH_take (i := 26) (v := undef) rfl (by kernel_rfl) (by kernel_rfl) (by kernel_rfl) (fun _ _ _ h => h) (Or.inr ⟨by rfl, rfl⟩) (by assumption) ?_
          (try simp only [Act.put, List.getElem_toArray, List.getElem_cons_zero, List.getElem_cons_succ, List.setIfInBounds_toArray, List.set_cons_zero, List.set_cons_succ])
          refine wpAnyH_take (i := 27) (v := ?v92) rfl (by kernel_rfl) (by kernel_rfl) (by kernel_rfl) (fun _ _ _ h => h) (Or.inl ⟨by rfl, ?y92⟩) (by assumption) ?r92
          case y92 => (intro w hSw; (try dsimp only at hSw); (try simp only [List.getElem_toArray, List.getElem_cons_zero, List.getElem_cons_succ]); go_simp; first | done | with_reducible rfl)
          (try simp only [Act.put, List.getElem_toArray, List.getElem_cons_zero, List.getElem_cons_succ, List.setIfInBounds_toArray, List.set_cons_zero, List.set_cons_succ])
          refine wpAnyH_take (i := 28) (v := ?v93) rfl (by kernel_rfl) (by kernel_rfl) (by kernel_rfl) (fun _ _ _ h => h) (Or.inl ⟨by rfl, ?y93⟩) (by assumption) ?r93
          case y93 => (intro w hSw; (try dsimp only at hSw); (try simp only [List.getElem_toArray, List.getElem_cons_zero, List.getElem_cons_succ]); go_simp; first | done | with_reducible rfl)
          (try simp only [Act.put, List.getElem_toArray, List.getElem_cons_zero, List.getElem_cons_succ, List.setIfInBounds_toArray, List.set_cons_zero, List.set_cons_succ])
          refine wpAnyH_take (i := 29) (v := ?v94) rfl (by kernel_rfl) (by kernel_rfl) (by kernel_rfl) (fun _ _ _ h => h) (Or.inl ⟨by rfl, ?y94⟩) (by assumption) ?r94
          case y94 => (intro w hSw; (try dsimp only at hSw); (try simp only [List.getElem_toArray, List.getElem_cons_zero, List.getElem_cons_succ]); go_simp; first | done | with_reducible rfl)
          (try simp only [Act.put, List.getElem_toArray, List.getElem_cons_zero, List.getElem_cons_succ, List.setIfInBounds_toArray, List.set_cons_zero, List.set_cons_succ])
          refine wpAnyH_take (i := 30) (v := ?v95) rfl (by kernel_rfl) (by kernel_rfl) (by kernel_rfl) (fun _ _ _ h => h) (Or.inl ⟨by rfl, ?y95⟩) (by assumption) ?r95
          case y95 => (intro w hSw; (try dsimp only at hSw); (try simp only [List.getElem_toArray, List.getElem_cons_zero, List.getElem_cons_succ]); go_simp; first | done | with_reducible rfl)
          (try simp only [Act.put, List.getElem_toArray, List.getElem_cons_zero, List.getElem_cons_succ, List.setIfInBounds_toArray, List.set_cons_zero, List.set_cons_succ])
          refine wpAnyH_take (i := 31) (v := ?v96) rfl (by kernel_rfl) (by kernel_rfl) (by kernel_rfl) (fun _ _ _ h => h) (Or.inl ⟨by rfl, ?y96⟩) (by assumption) ?r96
          case y96 => (intro w hSw; (try dsimp only at hSw); (try simp only [List.getElem_toArray, List.getElem_cons_zero, List.getElem_cons_succ]); go_simp; first | done | with_reducible rfl)
          (try simp only [Act.put, List.getElem_toArray, List.getElem_cons_zero, List.getElem_cons_succ, List.setIfInBounds_toArray, List.set_cons_zero, List.set_cons_succ])
          refine wpAnyH_take (i := 32) (v := ?v97) rfl (by kernel_rfl) (by kernel_rfl) (by kernel_rfl) (fun _ _ _ h => h) (Or.inl ⟨by rfl, ?y97⟩) (by assumption) ?r97
          case y97 => (intro w hSw; (try dsimp only at hSw); (try simp only [List.getElem_toArray, List.getElem_cons_zero, List.getElem_cons_succ]); go_simp; first | done | with_reducible rfl)
          (try simp only [Act.put, List.getElem_toArray, List.getElem_cons_zero, List.getElem_cons_succ, List.setIfInBounds_toArray, List.set_cons_zero, List.set_cons_succ])
          refine wpAnyH_take (i := 33) (v := ?v98) rfl (by kernel_rfl) (by kernel_rfl) (by kernel_rfl) (fun _ _ _ h => h) (Or.inl ⟨by rfl, ?y98⟩) (by assumption) ?r98
          case y98 => (intro w hSw; (try dsimp only at hSw); (try simp only [List.getElem_toArray, List.getElem_cons_zero, List.getElem_cons_succ]); go_simp; first | done | with_reducible rfl)
          (try simp only [Act.put, List.getElem_toArray, List.getElem_cons_zero, List.getElem_cons_succ, List.setIfInBounds_toArray, List.set_cons_zero, List.set_cons_succ])
          refine wpAnyH_take (i := 34) (v := ?v99) rfl (by kernel_rfl) (by kernel_rfl) (by kernel_rfl) (fun _ _ _ h => h) (Or.inl ⟨by rfl, ?y99⟩) (by assumption) ?r99
          case y99 => (intro w hSw; (try dsimp only at hSw); (try simp only [List.getElem_toArray, List.getElem_cons_zero, List.getElem_cons_succ]); go_simp; first | done | with_reducible rfl)
          (try simp only [Act.put, List.getElem_toArray, List.getElem_cons_zero, List.getElem_cons_succ, List.setIfInBounds_toArray, List.set_cons_zero, List.set_cons_succ])
          refine wpAnyH_take (i := 35) (v := ?v100) rfl (by kernel_rfl) (by kernel_rfl) (by kernel_rfl) (fun _ _ _ h => h) (Or.inl ⟨by rfl, ?y100⟩) (by assumption) ?r100
          case y100 => (intro w hSw; (try dsimp only at hSw); (try simp only [List.getElem_toArray, List.getElem_cons_zero, List.getElem_cons_succ]); go_simp; first | done | with_reducible rfl)
          (try simp only [Act.put, List.getElem_toArray, List.getElem_cons_zero, List.getElem_cons_succ, List.setIfInBounds_toArray, List.set_cons_zero, List.set_cons_succ])
          refine wpAnyH_take (i := 36) (v := ?v101) rfl (by kernel_rfl) (by kernel_rfl) (by kernel_rfl) (fun _ _ _ h => h) (Or.inl ⟨by rfl, ?y101⟩) (by assumption) ?r101
          case y101 => (intro w hSw; (try dsimp only at hSw); (try simp only [List.getElem_toArray, List.getElem_cons_zero, List.getElem_cons_succ]); go_simp; first | done | with_reducible rfl)
          (try simp only [Act.put, List.getElem_toArray, List.getElem_cons_zero, List.getElem_cons_succ, List.setIfInBounds_toArray, List.set_cons_zero, List.set_cons_succ])
          refine wpAnyH_take (i := 37) (v := undef) rfl (by kernel_rfl) (by kernel_rfl) (by kernel_rfl) (fun _ _ _ h => h) (Or.inr ⟨by rfl, rfl⟩) (by assumption) ?_
          (try simp only [Act.put, List.getElem_toArray, List.getElem_cons_zero, List.getElem_cons_succ, List.setIfInBounds_toArray, List.set_cons_zero, List.set_cons_succ])
          refine wpAnyH_take (i := 38) (v := ?v103) rfl (by kernel_rfl) (by kernel_rfl) (by kernel_rfl) (fun _ _ _ h => h) (Or.inl ⟨by rfl, ?y103⟩) (by assumption) ?r103
          case y103 => (intro w hSw; (try dsimp only at hSw); (try simp only [List.getElem_toArray, List.getElem_cons_zero, List.getElem_cons_succ]); go_simp; first | done | with_reducible rfl)
          (try simp only [Act.put, List.getElem_toArray, List.getElem_cons_zero, List.getElem_cons_succ, List.setIfInBounds_toArray, List.set_cons_zero, List.set_cons_succ])
          refine wpAnyH_take (i := 39) (v := ?v104) rfl (by kernel_rfl) (by kernel_rfl) (by kernel_rfl) (fun _ _ _ h => h) (Or.inl ⟨by rfl, ?y104⟩) (by assumption) ?r104
          case y104 => (intro w hSw; (try dsimp only at hSw); (try simp only [List.getElem_toArray, List.getElem_cons_zero, List.getElem_cons_succ]); go_simp; first | done | with_reducible rfl)
          (try simp only [Act.put, List.getElem_toArray, List.getElem_cons_zero, List.getElem_cons_succ, List.setIfInBounds_toArray, List.set_cons_zero, List.set_cons_succ])
          refine wpAnyH_take (i := 40) (v := ?v105) rfl (by kernel_rfl) (by kernel_rfl) (by kernel_rfl) (fun _ _ _ h => h) (Or.inl ⟨by rfl, ?y105⟩) (by assumption) ?r105
          case y105 => (intro w hSw; (try dsimp only at hSw); (try simp only [List.getElem_toArray, List.getElem_cons_zero, List.getElem_cons_succ]); go_simp; first | done | with_reducible rfl)
          (try simp only [Act.put, List.getElem_toArray, List.getElem_cons_zero, List.getElem_cons_succ, List.setIfInBounds_toArray, List.set_cons_zero, List.set_cons_succ])
          refine wpAnyH_take (i := 41) (v := ?v106) rfl (by kernel_rfl) (by kernel_rfl) (by kernel_rfl) (fun _ _ _ h => h) (Or.inl ⟨by rfl, ?y106⟩) (by assumption) ?r106
          case y106 => (intro w hSw; (try dsimp only at hSw); (try simp only [List.getElem_toArray, List.getElem_cons_zero, List.getElem_cons_succ]); go_simp; first | done | with_reducible rfl)
          (try simp only [Act.put, List.getElem_toArray, List.getElem_cons_zero, List.getElem_cons_succ, List.setIfInBounds_toArray, List.set_cons_zero, List.set_cons_succ])
          refine wpAnyH_take (i := 42) (v := ?v107) rfl (by kernel_rfl) (by kernel_rfl) (by kernel_rfl) (fun _ _ _ h => h) (Or.inl ⟨by rfl, ?y107⟩) (by assumption) ?r107
          case y107 => (intro w hSw; (try dsimp only at hSw); (try simp only [List.getElem_toArray, List.getElem_cons_zero, List.getElem_cons_succ]); go_simp; first | done | with_reducible rfl)
          (try simp only [Act.put, List.getElem_toArray, List.getElem_cons_zero, List.getElem_cons_succ, List.setIfInBounds_toArray, List.set_cons_zero, List.set_cons_succ])
          refine wpAnyH_take (i := 43) (v := ?v108) rfl (by kernel_rfl) (by kernel_rfl) (by kernel_rfl) (fun _ _ _ h => h) (Or.inl ⟨by rfl, ?y108⟩) (by assumption) ?r108
          case y108 => (intro w hSw; (try dsimp only at hSw); (try simp only [List.getElem_toArray, List.getElem_cons_zero, List.getElem_cons_succ]); go_simp; first | done | with_reducible rfl)
          (try simp only [Act.put, List.getElem_toArray, List.getElem_cons_zero, List.getElem_cons_succ, List.setIfInBounds_toArray, List.set_cons_zero, List.set_cons_succ])
          refine wpAnyH_take (i := 44) (v := ?v109) rfl (by kernel_rfl) (by kernel_rfl) (by kernel_rfl) (fun _ _ _ h => h) (Or.inl ⟨by rfl, ?y109⟩) (by assumption) ?r109
          case y109 => (intro w hSw; (try dsimp only at hSw); (try simp only [List.getElem_toArray, List.getElem_cons_zero, List.getElem_cons_succ]); go_simp; first | done | with_reducible rfl)
          (try simp only [Act.put, List.getElem_toArray, List.getElem_cons_zero, List.getElem_cons_succ, List.setIfInBounds_toArray, List.set_cons_zero, List.set_cons_succ])
          refine wpAnyH_take (i := 45) (v := ?v110) rfl (by kernel_rfl) (by kernel_rfl) (by kernel_rfl) (fun _ _ _ h => h) (Or.inl ⟨by rfl, ?y110⟩) (by assumption) ?r110
          case y110 => (intro w hSw; (try dsimp only at hSw); (try simp only [List.getElem_toArray, List.getElem_cons_zero, List.getElem_cons_succ]); go_simp; first | done | with_reducible rfl)
          (try simp only [Act.put, List.getElem_toArray, List.getElem_cons_zero, List.getElem_cons_succ, List.setIfInBounds_toArray, List.set_cons_zero, List.set_cons_succ])
          refine wpAnyH_take (i := 46) (v := ?v111) rfl (by kernel_rfl) (by kernel_rfl) (by kernel_rfl) (fun _ _ _ h => h) (Or.inl ⟨by rfl, ?y111⟩) (by assumption) ?r111
          case y111 => (intro w hSw; (try dsimp only at hSw); (try simp only [List.getElem_toArray, List.getElem_cons_zero, List.getElem_cons_succ]); go_simp; first | done | with_reducible rfl)
          (try simp only [Act.put, List.getElem_toArray, List.getElem_cons_zero, List.getElem_cons_succ, List.setIfInBounds_toArray, List.set_cons_zero, List.set_cons_succ])
          refine wpAnyH_take (i := 47) (v := ?v112) rfl (by kernel_rfl) (by kernel_rfl) (by kernel_rfl) (fun _ _ _ h => h) (Or.inl ⟨by rfl, ?y112⟩) (by assumption) ?r112
          case y112 => (intro w hSw; (try dsimp only at hSw); (try simp only [List.getElem_toArray, List.getElem_cons_zero, List.getElem_cons_succ]); go_simp; first | done | with_reducible rfl)
          (try simp only [Act.put, List.getElem_toArray, List.getElem_cons_zero, List.getElem_cons_succ, List.setIfInBounds_toArray, List.set_cons_zero, List.set_cons_succ])
          refine wpAnyH_take (i := 48) (v := ?v113) rfl (by kernel_rfl) (by kernel_rfl) (by kernel_rfl) (fun _ _ _ h => h) (Or.inl ⟨by rfl, ?y113⟩) (by assumption) ?r113
          case y113 => (intro w hSw; (try dsimp only at hSw); (try simp only [List.getElem_toArray, List.getElem_cons_zero, List.getElem_cons_succ]); go_simp; first | done | with_reducible rfl)
          (try simp only [Act.put, List.getElem_toArray, List.getElem_cons_zero, List.getElem_cons_succ, List.setIfInBounds_toArray, List.set_cons_zero, List.set_cons_succ])
          refine wpAnyH_take (i := 49) (v := ?v114) rfl (by kernel_rfl) (by kernel_rfl) (by kernel_rfl) (fun _ _ _ h => h) (Or.inl ⟨by rfl, ?y114⟩) (by assumption) ?r114
          case y114 => (intro w hSw; (try dsimp only at hSw); (try simp only [List.getElem_toArray, List.getElem_cons_zero, List.getElem_cons_succ]); go_simp; first | done | with_reducible rfl)
          (try simp only [Act.put, List.getElem_toArray, List.getElem_cons_zero, List.getElem_cons_succ, List.setIfInBounds_toArray, List.set_cons_zero, List.set_cons_succ])
          refine wpAnyH_take (i := 50) (v := ?v115) rfl (by kernel_rfl) (by kernel_rfl) (by kernel_rfl) (fun _ _ _ h => h) (Or.inl ⟨by rfl, ?y115⟩) (by assumption) ?r115
          case y115 => (intro w hSw; (try dsimp only at hSw); (try simp only [List.getElem_toArray, List.getElem_cons_zero, List.getElem_cons_succ]); go_simp; first | done | with_reducible rfl)
          (try simp only [Act.put, List.getElem_toArray, List.getElem_cons_zero, List.getElem_cons_succ, List.setIfInBounds_toArray, List.set_cons_zero, List.set_cons_succ])
          refine wpAnyH_take (i := 51) (v := ?v116) rfl (by kernel_rfl) (by kernel_rfl) (by kernel_rfl) (fun _ _ _ h => h) (Or.inl ⟨by rfl, ?y116⟩) (by assumption) ?r116
          case y116 => (intro w hSw; (try dsimp only at hSw); (try simp only [List.getElem_toArray, List.getElem_cons_zero, List.getElem_cons_succ]); go_simp; first | done | with_reducible rfl)
          (try simp only [Act.put, List.getElem_toArray, List.getElem_cons_zero, List.getElem_cons_succ, List.setIfInBounds_toArray, List.set_cons_zero, List.set_cons_succ])
          refine wpAnyH_take (i := 52) (v := ?v117) rfl (by kernel_rfl) (by kernel_rfl) (by kernel_rfl) (fun _ _ _ h => h) (Or.inl ⟨by rfl, ?y117⟩) (by assumption) ?r117
          case y117 => (intro w hSw; (try dsimp only at hSw); (try simp only [List.getElem_toArray, List.getElem_cons_zero, List.getElem_cons_succ]); go_simp; first | done | with_reducible rfl)
          (try simp only [Act.put, List.getElem_toArray, List.getElem_cons_zero, List.getElem_cons_succ, List.setIfInBounds_toArray, List.set_cons_zero, List.set_cons_succ])
          refine wpAnyH_take (i := 53) (v := ?v118) rfl (by kernel_rfl) (by kernel_rfl) (by kernel_rfl) (fun _ _ _ h => h) (Or.inl ⟨by rfl, ?y118⟩) (by assumption) ?r118
          case y118 => (intro w hSw; (try dsimp only at hSw); (try simp only [List.getElem_toArray, List.getElem_cons_zero, List.getElem_cons_succ]); go_simp; first | done | with_reducible rfl)
          (try simp only [Act.put, List.getElem_toArray, List.getElem_cons_zero, List.getElem_cons_succ, List.setIfInBounds_toArray, List.set_cons_zero, List.set_cons_succ])
          refine wpAnyH_ready (rs := [54]) (by kernel_rfl) (by simp) ?_
          refine AllReadyH.cons rfl (fun K hK => ?_) ?_
          · (try simp only [List.getElem_toArray, List.getElem_cons_zero, List.getElem_cons_succ])
            go_simp
            have hk := And.right ‹_ ∧ Kp wr _›
            refine (TF.out _).mono ?_
            rintro e v4 ⟨A9, k9, c9, B9, j9, e9, rfl, hk9, hj9, hW9, hX9, -, -, hbx⟩
            have hp := Kp.trans hk hbx
            have r9 : RQ v4 fs A9 k9 c9 B9 j9 e9 := ⟨hk9, hj9, hW9, hX9⟩
            clear hk hbx hk9 hj9 hW9 hX9
            (try (go_wp2_with fail))
            refine hK.out _ _ ?k120 (fun hHeld120 => ?n120)
            case k120 => ((try dsimp only); first | (with_reducible refine HS.out _ ?_; with_reducible assumption) | (with_reducible refine HS.out _ (Kp.drew ?_); with_reducible assumption) | (with_reducible refine' HS.out _ (Kp.drew (And.right ?_)); rotate_left; with_reducible assumption))
            clear hK K
            (try simp only [Act.put, List.getElem_toArray, List.getElem_cons_zero, List.getElem_cons_succ, List.setIfInBounds_toArray, List.set_cons_zero, List.set_cons_succ])
            refine wpAnyH_ready (rs := [55]) (by kernel_rfl) (by simp) ?_
            refine AllReadyH.cons rfl (fun K hK => ?_) ?_
            · (try simp only [List.getElem_toArray, List.getElem_cons_zero, List.getElem_cons_succ])
              go_simp
              have hk := And.right ‹_ ∧ Kp wr _›
              refine (TM.out _ hk _ _ _ _ _ _ r9).mono ?_
              rintro e v5 ⟨A9, k9, c9, B9, j9, e9, rfl, hk9, hj9, hW9, hX9, -, -, hbx⟩
              have hp := Kp.trans hk hbx
              have r9 : RQ v5 tm A9 k9 c9 B9 j9 e9 := ⟨hk9, hj9, hW9, hX9⟩
              clear hk hbx hk9 hj9 hW9 hX9
              (try (go_wp2_with fail))
              refine hK.out _ _ ?k122 (fun hHeld122 => ?n122)
              case k122 => ((try dsimp only); first | (with_reducible refine HS.out _ ?_; with_reducible assumption) | (with_reducible refine HS.out _ (Kp.drew ?_); with_reducible assumption) | (with_reducible refine' HS.out _ (Kp.drew (And.right ?_)); rotate_left; with_reducible assumption))
              clear hK K
              (try simp only [Act.put, List.getElem_toArray, List.getElem_cons_zero, List.getElem_cons_succ, List.setIfInBounds_toArray, List.set_cons_zero, List.set_cons_succ])
              refine wpAnyH_ready (rs := [56]) (by kernel_rfl) (by simp) ?_
              refine AllReadyH.cons rfl (fun K hK => ?_) ?_
              · (try simp only [List.getElem_toArray, List.getElem_cons_zero, List.getElem_cons_succ])
                go_simp
                have hk := And.right ‹_ ∧ Kp wr _›
                refine (TC.out _ hk _ _ _ _ _ _ r9).mono ?_
                rintro e v6 ⟨rfl, hbx⟩
                have hp := Kp.trans hk hbx
                clear hk hbx r9
                (try (go_wp2_with fail))
                refine hK.out _ _ ?k124 (fun hHeld124 => ?n124)
                case k124 => ((try dsimp only); first | (with_reducible refine HS.out _ ?_; with_reducible assumption) | (with_reducible refine HS.out _ (Kp.drew ?_); with_reducible assumption) | (with_reducible refine' HS.out _ (Kp.drew (And.right ?_)); rotate_left; with_reducible assumption))
                clear hK K
                (try simp only [Act.put, List.getElem_toArray, List.getElem_cons_zero, List.getElem_cons_succ, List.setIfInBounds_toArray, List.set_cons_zero, List.set_cons_succ])
                refine wpAnyH_take (i := 57) (v := ?v125) rfl (by kernel_rfl) (by kernel_rfl) (by kernel_rfl) (fun _ _ _ h => h) (Or.inl ⟨by rfl, ?y125⟩) (by assumption) ?r125
                case y125 => (intro w hSw; (try dsimp only at hSw); (try simp only [List.getElem_toArray, List.getElem_cons_zero, List.getElem_cons_succ]); go_simp; first | done | with_reducible rfl)
                (try simp only [Act.put, List.getElem_toArray, List.getElem_cons_zero, List.getElem_cons_succ, List.setIfInBounds_toArray, List.set_cons_zero, List.set_cons_succ])
                refine wpAnyH_take (i := 58) (v := ?v126) rfl (by kernel_rfl) (by kernel_rfl) (by kernel_rfl) (fun _ _ _ h => h) (Or.inl ⟨by rfl, ?y126⟩) (by assumption) ?r126
                case y126 => (intro w hSw; (try dsimp only at hSw); (try simp only [List.getElem_toArray, List.getElem_cons_zero, List.getElem_cons_succ]); go_simp; first | done | with_reducible rfl)
                (try simp only [Act.put, List.getElem_toArray, List.getElem_cons_zero, List.getElem_cons_succ, List.setIfInBounds_toArray, List.set_cons_zero, List.set_cons_succ])
                refine wpAnyH_done (by kernel_rfl) ?_ _
                have hb6 := HSUM.out.below hp HSUM.out.lt
                obtain ⟨s0, s1, s2, s3, r0, r1, r2, r3⟩ := hb6.four
                obtain ⟨y0, y1, y2, y3⟩ := hyc.out v6 hp
                have HP6 := Lib.hid hp
                have HB6 := Lib.hid hb6
                have s6 := Kp.refl v6
                clear hp hb6
                generalize hsm2 : sm + te = sm2 at *
                have HSM2 := Lib.hid hsm2
                clear hsm2
                go_upto_region 16 with fail
                go_region_with (first | (go_at_call 30; refine (TADD.out _ (Kp.trans HP6.out (Kp.drew s6))).mono ?_; rintro e v8 ⟨B5, q5, e5, B6, q6, e6, rfl, hk5, hk6, hW5, hW6, hF5, hF6, hb4⟩; have hp4 : Kp v6 v8 := Kp.trans (Kp.drew s6) hb4; obtain ⟨i0, i1', i2', i3', i4', i5', i6', i7'⟩ := (Kp.blk hp4 HB6.out).four; clear hb4))
                all_goals
                  have e8 : (((v8.setCell ⟨w5.heap.size, 0, none⟩ (.bool (decide (sm2.num < 0)))).setCell ⟨w5.heap.size, 1, none⟩ (.slice B5 q5 e5)).setCell ⟨w5.heap.size, 2, none⟩ (.bool false)).setCell ⟨w5.heap.size, 3, none⟩ (.slice B6 q6 e6) = qst v8 w5.heap.size 0 (decide (sm2.num < 0)) false B5 B6 q5 e5 q6 e6 := rfl
                  rw [e8]
                  have hx8 := Kp.blk hp4 HB6.out
                  have hfin : PrI w5.heap.size V (p1 : Rat) t1 (i + 1) (qst v8 w5.heap.size 0 (decide (sm2.num < 0)) false B5 B6 q5 e5 q6 e6) := by
                    have e9 : (pyS (p1 : Rat) t1 (i + 1)).2 = sm2 := by first | exact h9.out.2 | (rw [h9.out.2]; exact HSM2.out)
                    refine ⟨below_qst ((h9.out.1.trans (Below.mono (Kp.trans HP6.out hp4) (by have := HSUM.out.lt; omega)))) (Nat.le_refl _), B5, q5, e5, B6, q6, e6, ?_, ?_⟩
                    · rw [e9]; exact hx8.put4
                    · rw [e9]; exact RQ.put4 ⟨hk5, hk6, hW5, hW6⟩ hx8 NoInt.four
                  have HF := Lib.hid hfin
                  generalize qst v8 w5.heap.size 0 (decide (sm2.num < 0)) false B5 B6 q5 e5 q6 e6 = W8 at *
                  clear e8 hfin hx8 hk5 hk6 hW5 hW6 hF5 hF6 i0 i1' i2' i3' i4' i5' i6' i7' hp4 s0 s1 s2 s3 y0 y1 y2 y3 r0 r1 r2 r3
                  go_wp2
                  go_roundw
                  case rel => exact ⟨i + 1, by omega, by first | rfl | go_num, HF.out⟩
                  case measure => simp [intOf]; omega
              exact AllReadyH.nil
            exact AllReadyH.nil
          exact AllReadyH.nil
        · have d1 : decide (spin < p1) = false := decide_eq_false (by omega)
          have d2 : decide (p1 < spin) = true := decide_eq_true hc
          obtain rfl : sv = 0 := by rw [← HSG.out, M3.out hc]; rfl
          clear hc M2 M3 HSG
          go_wp2_with fail
          refine TS0.out.mono ?_
          rintro e v0 ⟨rfl, hb0⟩
          have hk0 : Kp wr v0 := hb0
          clear hb0 x0 x1 x2 x3
          go_wp2_with fail
          refine wp_region_held_drew (S := fun w' => (w'.cell? ⟨ga, i * 4, none⟩ = some (.bool (decide (ta.num < 0))) ∧ w'.cell? ⟨ga, i * 4 + 1, none⟩ = some (.slice A5 k5 c5) ∧ w'.cell? ⟨ga, i * 4 + 2, none⟩ = some (.bool false) ∧ w'.cell? ⟨ga, i * 4 + 3, none⟩ = some (.slice A6 k6 c6) ∧ w'.cell? ⟨gE, i * 4, none⟩ = some (.bool (decide (te.num < 0))) ∧ w'.cell? ⟨gE, i * 4 + 1, none⟩ = some (.slice A7 k7 c7) ∧ w'.cell? ⟨gE, i * 4 + 2, none⟩ = some (.bool false) ∧ w'.cell? ⟨gE, i * 4 + 3, none⟩ = some (.slice A8 k8 c8) ∧ w'.cell? ⟨b, o + i * 9, none⟩ = some (.int .i64 bus) ∧ w'.cell? ⟨b, o + i * 9 + 1, none⟩ = some (.int .i64 mn) ∧ w'.cell? ⟨b, o + i * 9 + 2, none⟩ = some (.slice A' n' c') ∧ w'.cell? ⟨b, o + i * 9 + 3, none⟩ = some (.int .i64 up) ∧ w'.cell? ⟨b, o + i * 9 + 4, none⟩ = some (.int .i64 dn) ∧ w'.cell? ⟨b, o + i * 9 + 5, none⟩ = some (.int .i64 start) ∧ w'.cell? ⟨b, o + i * 9 + 6, none⟩ = some (.int .i64 idle) ∧ w'.cell? ⟨b, o + i * 9 + 7, none⟩ = some (.int .i64 spin) ∧ w'.cell? ⟨b, o + i * 9 + 8, none⟩ = some (.int .i64 on) ∧ w'.cell? ⟨b', o' + i, none⟩ = some (.bool bk) ∧ w'.cell? ⟨b2, o2 + i * 4, none⟩ = some (.bool an) ∧ w'.cell? ⟨b2, o2 + i * 4 + 1, none⟩ = some (.slice aA ak ac) ∧ w'.cell? ⟨b2, o2 + i * 4 + 2, none⟩ = some (.bool an') ∧ w'.cell? ⟨b2, o2 + i * 4 + 3, none⟩ = some (.slice aA' ak' ac')) ∧ Kp wr w') (by kernel_rfl) (HS.out _ (Kp.drew hk0)) (fun hHeld => ?_)
          refine wpAnyH_take (i := 0) (v := ?v127) rfl (by kernel_rfl) (by kernel_rfl) (by kernel_rfl) (fun _ _ _ h => h) (Or.inl ⟨by rfl, ?y127⟩) (by assumption) ?r127
          case y127 => (intro w hSw; (try dsimp only at hSw); (try simp only [List.getElem_toArray, List.getElem_cons_zero, List.getElem_cons_succ]); go_simp; first | done | with_reducible rfl)
          (try simp only [Act.put, List.getElem_toArray, List.getElem_cons_zero, List.getElem_cons_succ, List.setIfInBounds_toArray, List.set_cons_zero, List.set_cons_succ])
          refine wpAnyH_take (i := 1) (v := ?v128) rfl (by kernel_rfl) (by kernel_rfl) (by kernel_rfl) (fun _ _ _ h => h) (Or.inl ⟨by rfl, ?y128⟩) (by assumption) ?r128
          case y128 => (intro w hSw; (try dsimp only at hSw); (try simp only [List.getElem_toArray, List.getElem_cons_zero, List.getElem_cons_succ]); go_simp; first | done | with_reducible rfl)
          (try simp only [Act.put, List.getElem_toArray, List.getElem_cons_zero, List.getElem_cons_succ, List.setIfInBounds_toArray, List.set_cons_zero, List.set_cons_succ])
          refine wpAnyH_take (i := 2) (v := ?v129) rfl (by kernel_rfl) (by kernel_rfl) (by kernel_rfl) (fun _ _ _ h => h) (Or.inl ⟨by rfl, ?y129⟩) (by assumption) ?r129
          case y129 => (intro w hSw; (try dsimp only at hSw); (try simp only [List.getElem_toArray, List.getElem_cons_zero, List.getElem_cons_succ]); go_simp; first | done | with_reducible rfl)
          (try simp only [Act.put, List.getElem_toArray, List.getElem_cons_zero, List.getElem_cons_succ, List.setIfInBounds_toArray, List.set_cons_zero, List.set_cons_succ])
          refine wpAnyH_take (i := 3) (v := ?v130) rfl (by kernel_rfl) (by kernel_rfl) (by kernel_rfl) (fun _ _ _ h => h) (Or.inl ⟨by rfl, ?y130⟩) (by assumption) ?r130
          case y130 => (intro w hSw; (try dsimp only at hSw); (try simp only [List.getElem_toArray, List.getElem_cons_zero, List.getElem_cons_succ]); go_simp; first | done | with_reducible rfl)
          (try simp only [Act.put, List.getElem_toArray, List.getElem_cons_zero, List.getElem_cons_succ, List.setIfInBounds_toArray, List.set_cons_zero, List.set_cons_succ])
          refine wpAnyH_take (i := 4) (v := ?v131) rfl (by kernel_rfl) (by kernel_rfl) (by kernel_rfl) (fun _ _ _ h => h) (Or.inl ⟨by rfl, ?y131⟩) (by assumption) ?r131
          case y131 => (intro w hSw; (try dsimp only at hSw); (try simp only [List.getElem_toArray, List.getElem_cons_zero, List.getElem_cons_succ]); go_simp; first | done | with_reducible rfl)
          (try simp only [Act.put, List.getElem_toArray, List.getElem_cons_zero, List.getElem_cons_succ, List.setIfInBounds_toArray, List.set_cons_zero, List.set_cons_succ])
          refine wpAnyH_take (i := 5) (v := ?v132) rfl (by kernel_rfl) (by kernel_rfl) (by kernel_rfl) (fun _ _ _ h => h) (Or.inl ⟨by rfl, ?y132⟩) (by assumption) ?r132
          case y132 => (intro w hSw; (try dsimp only at hSw); (try simp only [List.getElem_toArray, List.getElem_cons_zero, List.getElem_cons_succ]); go_simp; first | done | with_reducible rfl)
          (try simp only [Act.put, List.getElem_toArray, List.getElem_cons_zero, List.getElem_cons_succ, List.setIfInBounds_toArray, List.set_cons_zero, List.set_cons_succ])
          refine wpAnyH_take (i := 6) (v := ?v133) rfl (by kernel_rfl) (by kernel_rfl) (by kernel_rfl) (fun _ _ _ h => h) (Or.inl ⟨by rfl, ?y133⟩) (by assumption) ?r133
          case y133 => (intro w hSw; (try dsimp only at hSw); (try simp only [List.getElem_toArray, List.getElem_cons_zero, List.getElem_cons_succ]); go_simp; first | done | with_reducible rfl)
          (try simp only [Act.put, List.getElem_toArray, List.getElem_cons_zero, List.getElem_cons_succ, List.setIfInBounds_toArray, List.set_cons_zero, List.set_cons_succ])
          refine wpAnyH_take (i := 7) (v := ?v134) rfl (by kernel_rfl) (by kernel_rfl) (by kernel_rfl) (fun _ _ _ h => h) (Or.inl ⟨by rfl, ?y134⟩) (by assumption) ?r134
          case y134 => (intro w hSw; (try dsimp only at hSw); (try simp only [List.getElem_toArray, List.getElem_cons_zero, List.getElem_cons_succ]); go_simp; first | done | with_reducible rfl)
          (try simp only [Act.put, List.getElem_toArray, List.getElem_cons_zero, List.getElem_cons_succ, List.setIfInBounds_toArray, List.set_cons_zero, List.set_cons_succ])
          refine wpAnyH_take (i := 8) (v := undef) rfl (by kernel_rfl) (by kernel_rfl) (by kernel_rfl) (fun _ _ _ h => h) (Or.inr ⟨by rfl, rfl⟩) (by assumption) ?_
          (try simp only [Act.put, List.getElem_toArray, List.getElem_cons_zero, List.getElem_cons_succ, List.setIfInBounds_toArray, List.set_cons_zero, List.set_cons_succ])
          refine wpAnyH_take (i := 9) (v := undef) rfl (by kernel_rfl) (by kernel_rfl) (by kernel_rfl) (fun _ _ _ h => h) (Or.inr ⟨by rfl, rfl⟩) (by assumption) ?_
          (try simp only [Act.put, List.getElem_toArray, List.getElem_cons_zero, List.getElem_cons_succ, List.setIfInBounds_toArray, List.set_cons_zero, List.set_cons_succ])
          refine wpAnyH_take (i := 10) (v := undef) rfl (by kernel_rfl) (by kernel_rfl) (by kernel_rfl) (fun _ _ _ h => h) (Or.inr ⟨by rfl, rfl⟩) (by assumption) ?_
          (try simp only [Act.put, List.getElem_toArray, List.getElem_cons_zero, List.getElem_cons_succ, List.setIfInBounds_toArray, List.set_cons_zero, List.set_cons_succ])
          refine wpAnyH_take (i := 11) (v := undef) rfl (by kernel_rfl) (by kernel_rfl) (by kernel_rfl) (fun _ _ _ h => h) (Or.inr ⟨by rfl, rfl⟩) (by assumption) ?_
          (try simp only [Act.put, List.getElem_toArray, List.getElem_cons_zero, List.getElem_cons_succ, List.setIfInBounds_toArray, List.set_cons_zero, List.set_cons_succ])
          refine wpAnyH_take (i := 12) (v := undef) rfl (by kernel_rfl) (by kernel_rfl) (by kernel_rfl) (fun _ _ _ h => h) (Or.inr ⟨by rfl, rfl⟩) (by assumption) ?_
          (try simp only [Act.put, List.getElem_toArray, List.getElem_cons_zero, List.getElem_cons_succ, List.setIfInBounds_toArray, List.set_cons_zero, List.set_cons_succ])
          refine wpAnyH_take (i := 13) (v := undef) rfl (by kernel_rfl) (by kernel_rfl) (by kernel_rfl) (fun _ _ _ h => h) (Or.inr ⟨by rfl, rfl⟩) (by assumption) ?_
          (try simp only [Act.put, List.getElem_toArray, List.getElem_cons_zero, List.getElem_cons_succ, List.setIfInBounds_toArray, List.set_cons_zero, List.set_cons_succ])
          refine wpAnyH_take (i := 14) (v := undef) rfl (by kernel_rfl) (by kernel_rfl) (by kernel_rfl) (fun _ _ _ h => h) (Or.inr ⟨by rfl, rfl⟩) (by assumption) ?_
          (try simp only [Act.put, List.getElem_toArray, List.getElem_cons_zero, List.getElem_cons_succ, List.setIfInBounds_toArray, List.set_cons_zero, List.set_cons_succ])
          refine wpAnyH_take (i := 15) (v := undef) rfl (by kernel_rfl) (by kernel_rfl) (by kernel_rfl) (fun _ _ _ h => h) (Or.inr ⟨by rfl, rfl⟩) (by assumption) ?_
          (try simp only [Act.put, List.getElem_toArray, List.getElem_cons_zero, List.getElem_cons_succ, List.setIfInBounds_toArray, List.set_cons_zero, List.set_cons_succ])
          refine wpAnyH_take (i := 16) (v := undef) rfl (by kernel_rfl) (by kernel_rfl) (by kernel_rfl) (fun _ _ _ h => h) (Or.inr ⟨by rfl, rfl⟩) (by assumption) ?_
          (try simp only [Act.put, List.getElem_toArray, List.getElem_cons_zero, List.getElem_cons_succ, List.setIfInBounds_toArray, List.set_cons_zero, List.set_cons_succ])
          refine wpAnyH_take (i := 17) (v := undef) rfl (by kernel_rfl) (by kernel_rfl) (by kernel_rfl) (fun _ _ _ h => h) (Or.inr ⟨by rfl, rfl⟩) (by assumption) ?_
          (try simp only [Act.put, List.getElem_toArray, List.getElem_cons_zero, List.getElem_cons_succ, List.setIfInBounds_toArray, List.set_cons_zero, List.set_cons_succ])
          refine wpAnyH_take (i := 18) (v := undef) rfl (by kernel_rfl) (by kernel_rfl) (by kernel_rfl) (fun _ _ _ h => h) (Or.inr ⟨by rfl, rfl⟩) (by assumption) ?_
          (try simp only [Act.put, List.getElem_toArray, List.getElem_cons_zero, List.getElem_cons_succ, List.setIfInBounds_toArray, List.set_cons_zero, List.set_cons_succ])
          refine wpAnyH_take (i := 19) (v := undef) rfl (by kernel_rfl) (by kernel_rfl) (by kernel_rfl) (fun _ _ _ h => h) (Or.inr ⟨by rfl, rfl⟩) (by assumption) ?_
          (try simp only [Act.put, List.getElem_toArray, List.getElem_cons_zero, List.getElem_cons_succ, List.setIfInBounds_toArray, List.set_cons_zero, List.set_cons_succ])
          refine wpAnyH_take (i := 20) (v := undef) rfl (by kernel_rfl) (by kernel_rfl) (by kernel_rfl) (fun _ _ _ h => h) (Or.inr ⟨by rfl, rfl⟩) (by assumption) ?_
          (try simp only [Act.put, List.getElem_toArray, List.getElem_cons_zero, List.getElem_cons_succ, List.setIfInBounds_toArray, List.set_cons_zero, List.set_cons_succ])
          refine wpAnyH_take (i := 21) (v := undef) rfl (by kernel_rfl) (by kernel_rfl) (by kernel_rfl) (fun _ _ _ h => h) (Or.inr ⟨by rfl, rfl⟩) (by assumption) ?_
          (try simp only [Act.put, List.getElem_toArray, List.getElem_cons_zero, List.getElem_cons_succ, List.setIfInBounds_toArray, List.set_cons_zero, List.set_cons_succ])
          refine wpAnyH_take (i := 22) (v := undef) rfl (by kernel_rfl) (by kernel_rfl) (by kernel_rfl) (fun _ _ _ h => h) (Or.inr ⟨by rfl, rfl⟩) (by assumption) ?_
          (try simp only [Act.put, List.getElem_toArray, List.getElem_cons_zero, List.getElem_cons_succ, List.setIfInBounds_toArray, List.set_cons_zero, List.set_cons_succ])
          refine wpAnyH_take (i := 23) (v := undef) rfl (by kernel_rfl) (by kernel_rfl) (by kernel_rfl) (fun _ _ _ h => h) (Or.inr ⟨by rfl, rfl⟩) (by assumption) ?_
          (try simp only [Act.put, List.getElem_toArray, List.getElem_cons_zero, List.getElem_cons_succ, List.setIfInBounds_toArray, List.set_cons_zero, List.set_cons_succ])
          refine wpAnyH_take (i := 24) (v := undef) rfl (by kernel_rfl) (by kernel_rfl) (by kernel_rfl) (fun _ _ _ h => h) (Or.inr ⟨by rfl, rfl⟩) (by assumption) ?_
          (try simp only [Act.put, List.getElem_toArray, List.getElem_cons_zero, List.getElem_cons_succ, List.setIfInBounds_toArray, List.set_cons_zero, List.set_cons_succ])
          refine wpAnyH_take (i := 25) (v := undef) rfl (by kernel_rfl) (by kernel_rfl) (by kernel_rfl) (fun _ _ _ h => h) (Or.inr ⟨by rfl, rfl⟩) (by assumption) ?_
          (try simp only [Act.put, List.getElem_toArray, List.getElem_cons_zero, List.getElem_cons_succ, List.setIfInBounds_toArray, List.set_cons_zero, List.set_cons_succ])
          refine wpAnyH_take (i := 26) (v := undef) rfl (by kernel_rfl) (by kernel_rfl) (by kernel_rfl) (fun _ _ _ h => h) (Or.inr ⟨by rfl, rfl⟩) (by assumption) ?_
          (try simp only [Act.put, List.getElem_toArray, List.getElem_cons_zero, List.getElem_cons_succ, List.setIfInBounds_toArray, List.set_cons_zero, List.set_cons_succ])
          refine wpAnyH_take (i := 27) (v := ?v154) rfl (by kernel_rfl) (by kernel_rfl) (by kernel_rfl) (fun _ _ _ h => h) (Or.inl ⟨by rfl, ?y154⟩) (by assumption) ?r154
          case y154 => (intro w hSw; (try dsimp only at hSw); (try simp only [List.getElem_toArray, List.getElem_cons_zero, List.getElem_cons_succ]); go_simp; first | done | with_reducible rfl)
          (try simp only [Act.put, List.getElem_toArray, List.getElem_cons_zero, List.getElem_cons_succ, List.setIfInBounds_toArray, List.set_cons_zero, List.set_cons_succ])
          refine wpAnyH_take (i := 28) (v := ?v155) rfl (by kernel_rfl) (by kernel_rfl) (by kernel_rfl) (fun _ _ _ h => h) (Or.inl ⟨by rfl, ?y155⟩) (by assumption) ?r155
          case y155 => (intro w hSw; (try dsimp only at hSw); (try simp only [List.getElem_toArray, List.getElem_cons_zero, List.getElem_cons_succ]); go_simp; first | done | with_reducible rfl)
          (try simp only [Act.put, List.getElem_toArray, List.getElem_cons_zero, List.getElem_cons_succ, List.setIfInBounds_toArray, List.set_cons_zero, List.set_cons_succ])
          refine wpAnyH_take (i := 29) (v := ?v156) rfl (by kernel_rfl) (by kernel_rfl) (by kernel_rfl) (fun _ _ _ h => h) (Or.inl ⟨by rfl, ?y156⟩) (by assumption) ?r156
          case y156 => (intro w hSw; (try dsimp only at hSw); (try simp only [List.getElem_toArray, List.getElem_cons_zero, List.getElem_cons_succ]); go_simp; first | done | with_reducible rfl)
          (try simp only [Act.put, List.getElem_toArray, List.getElem_cons_zero, List.getElem_cons_succ, List.setIfInBounds_toArray, List.set_cons_zero, List.set_cons_succ])
          refine wpAnyH_take (i := 30) (v := ?v157) rfl (by kernel_rfl) (by kernel_rfl) (by kernel_rfl) (fun _ _ _ h => h) (Or.inl ⟨by rfl, ?y157⟩) (by assumption) ?r157
          case y157 => (intro w hSw; (try dsimp only at hSw); (try simp only [List.getElem_toArray, List.getElem_cons_zero, List.getElem_cons_succ]); go_simp; first | done | with_reducible rfl)
          (try simp only [Act.put, List.getElem_toArray, List.getElem_cons_zero, List.getElem_cons_succ, List.setIfInBounds_toArray, List.set_cons_zero, List.set_cons_succ])
          refine wpAnyH_take (i := 31) (v := ?v158) rfl (by kernel_rfl) (by kernel_rfl) (by kernel_rfl) (fun _ _ _ h => h) (Or.inl ⟨by rfl, ?y158⟩) (by assumption) ?r158
          case y158 => (intro w hSw; (try dsimp only at hSw); (try simp only [List.getElem_toArray, List.getElem_cons_zero, List.getElem_cons_succ]); go_simp; first | done | with_reducible rfl)
          (try simp only [Act.put, List.getElem_toArray, List.getElem_cons_zero, List.getElem_cons_succ, List.setIfInBounds_toArray, List.set_cons_zero, List.set_cons_succ])
          refine wpAnyH_take (i := 32) (v := ?v159) rfl (by kernel_rfl) (by kernel_rfl) (by kernel_rfl) (fun _ _ _ h => h) (Or.inl ⟨by rfl, ?y159⟩) (by assumption) ?r159
          case y159 => (intro w hSw; (try dsimp only at hSw); (try simp only [List.getElem_toArray, List.getElem_cons_zero, List.getElem_cons_succ]); go_simp; first | done | with_reducible rfl)
          (try simp only [Act.put, List.getElem_toArray, List.getElem_cons_zero, List.getElem_cons_succ, List.setIfInBounds_toArray, List.set_cons_zero, List.set_cons_succ])
          refine wpAnyH_take (i := 33) (v := ?v160) rfl (by kernel_rfl) (by kernel_rfl) (by kernel_rfl) (fun _ _ _ h => h) (Or.inl ⟨by rfl, ?y160⟩) (by assumption) ?r160
          case y160 => (intro w hSw; (try dsimp only at hSw); (try simp only [List.getElem_toArray, List.getElem_cons_zero, List.getElem_cons_succ]); go_simp; first | done | with_reducible rfl)
          (try simp only [Act.put, List.getElem_toArray, List.getElem_cons_zero, List.getElem_cons_succ, List.setIfInBounds_toArray, List.set_cons_zero, List.set_cons_succ])
          refine wpAnyH_take (i := 34) (v := ?v161) rfl (by kernel_rfl) (by kernel_rfl) (by kernel_rfl) (fun _ _ _ h => h) (Or.inl ⟨by rfl, ?y161⟩) (by assumption) ?r161
          case y161 => (intro w hSw; (try dsimp only at hSw); (try simp only [List.getElem_toArray, List.getElem_cons_zero, List.getElem_cons_succ]); go_simp; first | done | with_reducible rfl)
          (try simp only [Act.put, List.getElem_toArray, List.getElem_cons_zero, List.getElem_cons_succ, List.setIfInBounds_toArray, List.set_cons_zero, List.set_cons_succ])
          refine wpAnyH_take (i := 35) (v := ?v162) rfl (by kernel_rfl) (by kernel_rfl) (by kernel_rfl) (fun _ _ _ h => h) (Or.inl ⟨by rfl, ?y162⟩) (by assumption) ?r162
          case y162 => (intro w hSw; (try dsimp only at hSw); (try simp only [List.getElem_toArray, List.getElem_cons_zero, List.getElem_cons_succ]); go_simp; first | done | with_reducible rfl)
          (try simp only [Act.put, List.getElem_toArray, List.getElem_cons_zero, List.getElem_cons_succ, List.setIfInBounds_toArray, List.set_cons_zero, List.set_cons_succ])
          refine wpAnyH_take (i := 36) (v := ?v163) rfl (by kernel_rfl) (by kernel_rfl) (by kernel_rfl) (fun _ _ _ h => h) (Or.inl ⟨by rfl, ?y163⟩) (by assumption) ?r163
          case y163 => (intro w hSw; (try dsimp only at hSw); (try simp only [List.getElem_toArray, List.getElem_cons_zero, List.getElem_cons_succ]); go_simp; first | done | with_reducible rfl)
          (try simp only [Act.put, List.getElem_toArray, List.getElem_cons_zero, List.getElem_cons_succ, List.setIfInBounds_toArray, List.set_cons_zero, List.set_cons_succ])
          refine wpAnyH_take (i := 37) (v := ?v164) rfl (by kernel_rfl) (by kernel_rfl) (by kernel_rfl) (fun _ _ _ h => h) (Or.inl ⟨by rfl, ?y164⟩) (by assumption) ?r164
          case y164 => (intro w hSw; (try dsimp only at hSw); (try simp only [List.getElem_toArray, List.getElem_cons_zero, List.getElem_cons_succ]); go_simp; first | done | with_reducible rfl)
          (try simp only [Act.put, List.getElem_toArray, List.getElem_cons_zero, List.getElem_cons_succ, List.setIfInBounds_toArray, List.set_cons_zero, List.set_cons_succ])
          refine wpAnyH_take (i := 38) (v := ?v165) rfl (by kernel_rfl) (by kernel_rfl) (by kernel_rfl) (fun _ _ _ h => h) (Or.inl ⟨by rfl, ?y165⟩) (by assumption) ?r165
          case y165 => (intro w hSw; (try dsimp only at hSw); (try simp only [List.getElem_toArray, List.getElem_cons_zero, List.getElem_cons_succ]); go_simp; first | done | with_reducible rfl)
          (try simp only [Act.put, List.getElem_toArray, List.getElem_cons_zero, List.getElem_cons_succ, List.setIfInBounds_toArray, List.set_cons_zero, List.set_cons_succ])
          refine wpAnyH_take (i := 39) (v := ?v166) rfl (by kernel_rfl) (by kernel_rfl) (by kernel_rfl) (fun _ _ _ h => h) (Or.inl ⟨by rfl, ?y166⟩) (by assumption) ?r166
          case y166 => (intro w hSw; (try dsimp only at hSw); (try simp only [List.getElem_toArray, List.getElem_cons_zero, List.getElem_cons_succ]); go_simp; first | done | with_reducible rfl)
          (try simp only [Act.put, List.getElem_toArray, List.getElem_cons_zero, List.getElem_cons_succ, List.setIfInBounds_toArray, List.set_cons_zero, List.set_cons_succ])
          refine wpAnyH_take (i := 40) (v := ?v167) rfl (by kernel_rfl) (by kernel_rfl) (by kernel_rfl) (fun _ _ _ h => h) (Or.inl ⟨by rfl, ?y167⟩) (by assumption) ?r167
          case y167 => (intro w hSw; (try dsimp only at hSw); (try simp only [List.getElem_toArray, List.getElem_cons_zero, List.getElem_cons_succ]); go_simp; first | done | with_reducible rfl)
          (try simp only [Act.put, List.getElem_toArray, List.getElem_cons_zero, List.getElem_cons_succ, List.setIfInBounds_toArray, List.set_cons_zero, List.set_cons_succ])
          refine wpAnyH_take (i := 41) (v := ?v168) rfl (by kernel_rfl) (by kernel_rfl) (by kernel_rfl) (fun _ _ _ h => h) (Or.inl ⟨by rfl, ?y168⟩) (by assumption) ?r168
          case y168 => (intro w hSw; (try dsimp only at hSw); (try simp only [List.getElem_toArray, List.getElem_cons_zero, List.getElem_cons_succ]); go_simp; first | done | with_reducible rfl)
          (try simp only [Act.put, List.getElem_toArray, List.getElem_cons_zero, List.getElem_cons_succ, List.setIfInBounds_toArray, List.set_cons_zero, List.set_cons_succ])
          refine wpAnyH_take (i := 42) (v := ?v169) rfl (by kernel_rfl) (by kernel_rfl) (by kernel_rfl) (fun _ _ _ h => h) (Or.inl ⟨by rfl, ?y169⟩) (by assumption) ?r169
          case y169 => (intro w hSw; (try dsimp only at hSw); (try simp only [List.getElem_toArray, List.getElem_cons_zero, List.getElem_cons_succ]); go_simp; first | done | with_reducible rfl)
          (try simp only [Act.put, List.getElem_toArray, List.getElem_cons_zero, List.getElem_cons_succ, List.setIfInBounds_toArray, List.set_cons_zero, List.set_cons_succ])
          refine wpAnyH_take (i := 43) (v := ?v170) rfl (by kernel_rfl) (by kernel_rfl) (by kernel_rfl) (fun _ _ _ h => h) (Or.inl ⟨by rfl, ?y170⟩) (by assumption) ?r170
          case y170 => (intro w hSw; (try dsimp only at hSw); (try simp only [List.getElem_toArray, List.getElem_cons_zero, List.getElem_cons_succ]); go_simp; first | done | with_reducible rfl)
          (try simp only [Act.put, List.getElem_toArray, List.getElem_cons_zero, List.getElem_cons_succ, List.setIfInBounds_toArray, List.set_cons_zero, List.set_cons_succ])
          refine wpAnyH_take (i := 44) (v := ?v171) rfl (by kernel_rfl) (by kernel_rfl) (by kernel_rfl) (fun _ _ _ h => h) (Or.inl ⟨by rfl, ?y171⟩) (by assumption) ?r171
          case y171 => (intro w hSw; (try dsimp only at hSw); (try simp only [List.getElem_toArray, List.getElem_cons_zero, List.getElem_cons_succ]); go_simp; first | done | with_reducible rfl)
          (try simp only [Act.put, List.getElem_toArray, List.getElem_cons_zero, List.getElem_cons_succ, List.setIfInBounds_toArray, List.set_cons_zero, List.set_cons_succ])
          refine wpAnyH_take (i := 45) (v := ?v172) rfl (by kernel_rfl) (by kernel_rfl) (by kernel_rfl) (fun _ _ _ h => h) (Or.inl ⟨by rfl, ?y172⟩) (by assumption) ?r172
          case y172 => (intro w hSw; (try dsimp only at hSw); (try simp only [List.getElem_toArray, List.getElem_cons_zero, List.getElem_cons_succ]); go_simp; first | done | with_reducible rfl)
          (try simp only [Act.put, List.getElem_toArray, List.getElem_cons_zero, List.getElem_cons_succ, List.setIfInBounds_toArray, List.set_cons_zero, List.set_cons_succ])
          refine wpAnyH_take (i := 46) (v := ?v173) rfl (by kernel_rfl) (by kernel_rfl) (by kernel_rfl) (fun _ _ _ h => h) (Or.inl ⟨by rfl, ?y173⟩) (by assumption) ?r173
          case y173 => (intro w hSw; (try dsimp only at hSw); (try simp only [List.getElem_toArray, List.getElem_cons_zero, List.getElem_cons_succ]); go_simp; first | done | with_reducible rfl)
          (try simp only [Act.put, List.getElem_toArray, List.getElem_cons_zero, List.getElem_cons_succ, List.setIfInBounds_toArray, List.set_cons_zero, List.set_cons_succ])
          refine wpAnyH_take (i := 47) (v := ?v174) rfl (by kernel_rfl) (by kernel_rfl) (by kernel_rfl) (fun _ _ _ h => h) (Or.inl ⟨by rfl, ?y174⟩) (by assumption) ?r174
          case y174 => (intro w hSw; (try dsimp only at hSw); (try simp only [List.getElem_toArray, List.getElem_cons_zero, List.getElem_cons_succ]); go_simp; first | done | with_reducible rfl)
          (try simp only [Act.put, List.getElem_toArray, List.getElem_cons_zero, List.getElem_cons_succ, List.setIfInBounds_toArray, List.set_cons_zero, List.set_cons_succ])
          refine wpAnyH_take (i := 48) (v := ?v175) rfl (by kernel_rfl) (by kernel_rfl) (by kernel_rfl) (fun _ _ _ h => h) (Or.inl ⟨by rfl, ?y175⟩) (by assumption) ?r175
          case y175 => (intro w hSw; (try dsimp only at hSw); (try simp only [List.getElem_toArray, List.getElem_cons_zero, List.getElem_cons_succ]); go_simp; first | done | with_reducible rfl)
          (try simp only [Act.put, List.getElem_toArray, List.getElem_cons_zero, List.getElem_cons_succ, List.setIfInBounds_toArray, List.set_cons_zero, List.set_cons_succ])
          refine wpAnyH_take (i := 49) (v := ?v176) rfl (by kernel_rfl) (by kernel_rfl) (by kernel_rfl) (fun _ _ _ h => h) (Or.inl ⟨by rfl, ?y176⟩) (by assumption) ?r176
          case y176 => (intro w hSw; (try dsimp only at hSw); (try simp only [List.getElem_toArray, List.getElem_cons_zero, List.getElem_cons_succ]); go_simp; first | done | with_reducible rfl)
          (try simp only [Act.put, List.getElem_toArray, List.getElem_cons_zero, List.getElem_cons_succ, List.setIfInBounds_toArray, List.set_cons_zero, List.set_cons_succ])
          refine wpAnyH_take (i := 50) (v := ?v177) rfl (by kernel_rfl) (by kernel_rfl) (by kernel_rfl) (fun _ _ _ h => h) (Or.inl ⟨by rfl, ?y177⟩) (by assumption) ?r177
          case y177 => (intro w hSw; (try dsimp only at hSw); (try simp only [List.getElem_toArray, List.getElem_cons_zero, List.getElem_cons_succ]); go_simp; first | done | with_reducible rfl)
          (try simp only [Act.put, List.getElem_toArray, List.getElem_cons_zero, List.getElem_cons_succ, List.setIfInBounds_toArray, List.set_cons_zero, List.set_cons_succ])
          refine wpAnyH_take (i := 51) (v := ?v178) rfl (by kernel_rfl) (by kernel_rfl) (by kernel_rfl) (fun _ _ _ h => h) (Or.inl ⟨by rfl, ?y178⟩) (by assumption) ?r178
          case y178 => (intro w hSw; (try dsimp only at hSw); (try simp only [List.getElem_toArray, List.getElem_cons_zero, List.getElem_cons_succ]); go_simp; first | done | with_reducible rfl)
          (try simp only [Act.put, List.getElem_toArray, List.getElem_cons_zero, List.getElem_cons_succ, List.setIfInBounds_toArray, List.set_cons_zero, List.set_cons_succ])
          refine wpAnyH_take (i := 52) (v := ?v179) rfl (by kernel_rfl) (by kernel_rfl) (by kernel_rfl) (fun _ _ _ h => h) (Or.inl ⟨by rfl, ?y179⟩) (by assumption) ?r179
          case y179 => (intro w hSw; (try dsimp only at hSw); (try simp only [List.getElem_toArray, List.getElem_cons_zero, List.getElem_cons_succ]); go_simp; first | done | with_reducible rfl)
          (try simp only [Act.put, List.getElem_toArray, List.getElem_cons_zero, List.getElem_cons_succ, List.setIfInBounds_toArray, List.set_cons_zero, List.set_cons_succ])
          refine wpAnyH_take (i := 53) (v := ?v180) rfl (by kernel_rfl) (by kernel_rfl) (by kernel_rfl) (fun _ _ _ h => h) (Or.inl ⟨by rfl, ?y180⟩) (by assumption) ?r180
          case y180 => (intro w hSw; (try dsimp only at hSw); (try simp only [List.getElem_toArray, List.getElem_cons_zero, List.getElem_cons_succ]); go_simp; first | done | with_reducible rfl)
          (try simp only [Act.put, List.getElem_toArray, List.getElem_cons_zero, List.getElem_cons_succ, List.setIfInBounds_toArray, List.set_cons_zero, List.set_cons_succ])
          refine wpAnyH_ready (rs := [54]) (by kernel_rfl) (by simp) ?_
          refine AllReadyH.cons rfl (fun K hK => ?_) ?_
          · (try simp only [List.getElem_toArray, List.getElem_cons_zero, List.getElem_cons_succ])
            go_simp
            have hk := And.right ‹_ ∧ Kp wr _›
            refine (TF.out _).mono ?_
            rintro e v4 ⟨A9, k9, c9, B9, j9, e9, rfl, hk9, hj9, hW9, hX9, -, -, hbx⟩
            have hp := Kp.trans hk hbx
            have r9 : RQ v4 fs A9 k9 c9 B9 j9 e9 := ⟨hk9, hj9, hW9, hX9⟩
            clear hk hbx hk9 hj9 hW9 hX9
            (try (go_wp2_with fail))
            refine hK.out _ _ ?k182 (fun hHeld182 => ?n182)
            case k182 => ((try dsimp only); first | (with_reducible refine HS.out _ ?_; with_reducible assumption) | (with_reducible refine HS.out _ (Kp.drew ?_); with_reducible assumption) | (with_reducible refine' HS.out _ (Kp.drew (And.right ?_)); rotate_left; with_reducible assumption))
            clear hK K
            (try simp only [Act.put, List.getElem_toArray, List.getElem_cons_zero, List.getElem_cons_succ, List.setIfInBounds_toArray, List.set_cons_zero, List.set_cons_succ])
            refine wpAnyH_ready (rs := [55]) (by kernel_rfl) (by simp) ?_
            refine AllReadyH.cons rfl (fun K hK => ?_) ?_
            · (try simp only [List.getElem_toArray, List.getElem_cons_zero, List.getElem_cons_succ])
              go_simp
              have hk := And.right ‹_ ∧ Kp wr _›
              refine (TM.out _ hk _ _ _ _ _ _ r9).mono ?_
              rintro e v5 ⟨A9, k9, c9, B9, j9, e9, rfl, hk9, hj9, hW9, hX9, -, -, hbx⟩
              have hp := Kp.trans hk hbx
              have r9 : RQ v5 tm A9 k9 c9 B9 j9 e9 := ⟨hk9, hj9, hW9, hX9⟩
              clear hk hbx hk9 hj9 hW9 hX9
              (try (go_wp2_with fail))
              refine hK.out _ _ ?k184 (fun hHeld184 => ?n184)
              case k184 => ((try dsimp only); first | (with_reducible refine HS.out _ ?_; with_reducible assumption) | (with_reducible refine HS.out _ (Kp.drew ?_); with_reducible assumption) | (with_reducible refine' HS.out _ (Kp.drew (And.right ?_)); rotate_left; with_reducible assumption))
              clear hK K
              (try simp only [Act.put, List.getElem_toArray, List.getElem_cons_zero, List.getElem_cons_succ, List.setIfInBounds_toArray, List.set_cons_zero, List.set_cons_succ])
              refine wpAnyH_ready (rs := [56]) (by kernel_rfl) (by simp) ?_
              refine AllReadyH.cons rfl (fun K hK => ?_) ?_
              · (try simp only [List.getElem_toArray, List.getElem_cons_zero, List.getElem_cons_succ])
                go_simp
                have hk := And.right ‹_ ∧ Kp wr _›
                refine (TC.out _ hk _ _ _ _ _ _ r9).mono ?_
                rintro e v6 ⟨rfl, hbx⟩
                have hp := Kp.trans hk hbx
                clear hk hbx r9
                (try (go_wp2_with fail))
                refine hK.out _ _ ?k186 (fun hHeld186 => ?n186)
                case k186 => ((try dsimp only); first | (with_reducible refine HS.out _ ?_; with_reducible assumption) | (with_reducible refine HS.out _ (Kp.drew ?_); with_reducible assumption) | (with_reducible refine' HS.out _ (Kp.drew (And.right ?_)); rotate_left; with_reducible assumption))
                clear hK K
                (try simp only [Act.put, List.getElem_toArray, List.getElem_cons_zero, List.getElem_cons_succ, List.setIfInBounds_toArray, List.set_cons_zero, List.set_cons_succ])
                refine wpAnyH_take (i := 57) (v := ?v187) rfl (by kernel_rfl) (by kernel_rfl) (by kernel_rfl) (fun _ _ _ h => h) (Or.inl ⟨by rfl, ?y187⟩) (by assumption) ?r187
                case y187 => (intro w hSw; (try dsimp only at hSw); (try simp only [List.getElem_toArray, List.getElem_cons_zero, List.getElem_cons_succ]); go_simp; first | done | with_reducible rfl)
                (try simp only [Act.put, List.getElem_toArray, List.getElem_cons_zero, List.getElem_cons_succ, List.setIfInBounds_toArray, List.set_cons_zero, List.set_cons_succ])
                refine wpAnyH_take (i := 58) (v := ?v188) rfl (by kernel_rfl) (by kernel_rfl) (by kernel_rfl) (fun _ _ _ h => h) (Or.inl ⟨by rfl, ?y188⟩) (by assumption) ?r188
                case y188 => (intro w hSw; (try dsimp only at hSw); (try simp only [List.getElem_toArray, List.getElem_cons_zero, List.getElem_cons_succ]); go_simp; first | done | with_reducible rfl)
                (try simp only [Act.put, List.getElem_toArray, List.getElem_cons_zero, List.getElem_cons_succ, List.setIfInBounds_toArray, List.set_cons_zero, List.set_cons_succ])
                refine wpAnyH_done (by kernel_rfl) ?_ _
                have hb6 := HSUM.out.below hp HSUM.out.lt
                obtain ⟨s0, s1, s2, s3, r0, r1, r2, r3⟩ := hb6.four
                obtain ⟨y0, y1, y2, y3⟩ := hyc.out v6 hp
                have HP6 := Lib.hid hp
                have HB6 := Lib.hid hb6
                have s6 := Kp.refl v6
                clear hp hb6
                generalize hsm2 : sm + te = sm2 at *
                have HSM2 := Lib.hid hsm2
                clear hsm2
                go_upto_region 16 with fail
                go_region_with (first | (go_at_call 30; refine (TADD.out _ (Kp.trans HP6.out (Kp.drew s6))).mono ?_; rintro e v8 ⟨B5, q5, e5, B6, q6, e6, rfl, hk5, hk6, hW5, hW6, hF5, hF6, hb4⟩; have hp4 : Kp v6 v8 := Kp.trans (Kp.drew s6) hb4; obtain ⟨i0, i1', i2', i3', i4', i5', i6', i7'⟩ := (Kp.blk hp4 HB6.out).four; clear hb4))
                all_goals
                  have e8 : (((v8.setCell ⟨w5.heap.size, 0, none⟩ (.bool (decide (sm2.num < 0)))).setCell ⟨w5.heap.size, 1, none⟩ (.slice B5 q5 e5)).setCell ⟨w5.heap.size, 2, none⟩ (.bool false)).setCell ⟨w5.heap.size, 3, none⟩ (.slice B6 q6 e6) = qst v8 w5.heap.size 0 (decide (sm2.num < 0)) false B5 B6 q5 e5 q6 e6 := rfl
                  rw [e8]
                  have hx8 := Kp.blk hp4 HB6.out
                  have hfin : PrI w5.heap.size V (p1 : Rat) t1 (i + 1) (qst v8 w5.heap.size 0 (decide (sm2.num < 0)) false B5 B6 q5 e5 q6 e6) := by
                    have e9 : (pyS (p1 : Rat) t1 (i + 1)).2 = sm2 := by first | exact h9.out.2 | (rw [h9.out.2]; exact HSM2.out)
                    refine ⟨below_qst ((h9.out.1.trans (Below.mono (Kp.trans HP6.out hp4) (by have := HSUM.out.lt; omega)))) (Nat.le_refl _), B5, q5, e5, B6, q6, e6, ?_, ?_⟩
                    · rw [e9]; exact hx8.put4
                    · rw [e9]; exact RQ.put4 ⟨hk5, hk6, hW5, hW6⟩ hx8 NoInt.four
                  have HF := Lib.hid hfin
                  generalize qst v8 w5.heap.size 0 (decide (sm2.num < 0)) false B5 B6 q5 e5 q6 e6 = W8 at *
                  clear e8 hfin hx8 hk5 hk6 hW5 hW6 hF5 hF6 i0 i1' i2' i3' i4' i5' i6' i7' hp4 s0 s1 s2 s3 y0 y1 y2 y3 r0 r1 r2 r3
                  go_wp2
                  go_roundw
                  case rel => exact ⟨i + 1, by omega, by first | rfl | go_num, HF.out⟩
                  case measure => simp [intOf]; omega
              exact AllReadyH.nil
            exact AllReadyH.nil
          exact AllReadyH.nil
      · obtain rfl : i = n := by omega
        have hB14 := H4.out.2.1.below h4r H4.out.2.1.lt
        have hqA := H4.out.2.2.2.1.below h4r
        have hlA := H4.out.2.2.2.2.2
        have TEQ := Lib.hid (eq_k (hqs.qk hlA (by have := HN5.out; omega)) (hqA.qk hlA (by have := HN5.out; omega)))
        rw [decide_eq_true rfl] at TEQ
        obtain ⟨u0, u1, u2, u3, -, -, -, -⟩ := hB14.four
        have HWR := Lib.hid hwr
        clear hI h4r h2r hwr hB14 hqA hlA hbs hqs
        go_wp2_with fail
        refine TEQ.out.mono ?_
        rintro e w9 ⟨rfl, hb9⟩
        have HF := Lib.hid (HWR.out.trans (hb9.mono HWR.out.size))
        clear hb9 TEQ
        go_wp2
        go_ret
        exact ⟨rfl, HF.out⟩
  · have hp0 := (H2.out.2.2.2.1 hr).2
    subst hp0
    generalize rchk us bs qs need = x at *
    have e1 : (x != 0) = true := by simpa using hr
    clear hr H2
    go_wp2
    go_ret
    exact ⟨rfl, HBV.out⟩

end Go.Proofs.YtodkhjihkkmplaaGreat
