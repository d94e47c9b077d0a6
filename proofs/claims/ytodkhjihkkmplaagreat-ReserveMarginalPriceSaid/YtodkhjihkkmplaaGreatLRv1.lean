/-
ReserveMonotone: its walk. No statement of the seat is proved here; no conditions beyond those of each theorem.
-/
import Derived.Test.YtodkhjihkkmplaaGreatLQC
import Derived.Test.YtodkhjihkkmplaaGreatLRt7
import Derived.Test.YtodkhjihkkmplaaGreatLQD
namespace Go.Proofs.YtodkhjihkkmplaaGreat
set_option linter.unusedVariables false
set_option linter.unusedSimpArgs false
open Go.RowKit
open Wd

theorem long30_no {us : List Un} {m : Nat} {es : List QE} (h : long30B us m es = false) : longB us m = false ∧ es.length ≤ 30 ∧ es.any bigQ = false := by
  unfold long30B at h
  simp only [Bool.or_eq_false_iff, decide_eq_false_iff_not] at h
  exact ⟨h.1, by omega, h.2.2⟩
set_option maxRecDepth 100000 in
set_option maxHeartbeats 4000000 in
theorem mono30_any (A B C : Option Addr) (n c m d p pc : Nat) (us : List Un) (bs : List Bool) (es : List QE) (need : Int) (more : Nat) (w : World) (h : UsRaw w A n us) (h' : BsAt w B m bs) (hg : QsAtR w C p es) (hgs : es.any bigQ = false → ∃ qs, GsAt 0 w C p qs) (hne : Fits need) (hmo : more < 65536) :
    Calls Tryz.prog 6 #[.slice A n c, .slice B m d, .slice C p pc, .int .i64 need, .int .u16 (more : Int)] w fun e w' => e = .returned (.bool true) ∧ Below w.heap.size w w' := by
  have TL := Lib.hid (long30_any A B C n c m d p pc us bs es w h h'.1 hg)
  by_cases hL : long30B us m es = true
  · rw [hL] at TL
    clear h h' hg hgs hL
    go_enter Tryz.func6, Tryz.ntmps6
    go_wp2_with fail
    refine TL.out.mono ?_
    rintro e w1 ⟨rfl, hb1⟩
    have HB1 := Lib.hid hb1
    clear hb1 TL
    go_wp2_with fail
    refine (awake30_any _).mono ?_
    rintro e w2 ⟨rfl, hb2⟩
    have HF := Lib.hid (HB1.out.trans (hb2.mono HB1.out.size))
    clear hb2
    go_wp2
    go_ret
    exact ⟨rfl, HF.out⟩
  have hL : long30B us m es = false := by simpa using hL
  rw [hL] at TL
  obtain ⟨l1, l2, l3⟩ := long30_no hL
  obtain ⟨hu, hn30, hm30⟩ := h.at l1
  obtain ⟨qs, hq⟩ := hgs l3
  have hpl : p ≤ 30 := by have := hg.1; omega
  by_cases hbig : 868928 < need
  · have d1 : decide ((868928 : Int) < need) = true := decide_eq_true hbig
    clear h h' hg hgs hL l1 l2 l3 hu hq hbig
    go_enter Tryz.func6, Tryz.ntmps6
    go_wp2_with fail
    refine TL.out.mono ?_
    rintro e w1 ⟨rfl, hb1⟩
    have HB1 := Lib.hid hb1
    clear hb1 TL
    go_wp2_with fail
    refine (awake30_any _).mono ?_
    rintro e w2 ⟨rfl, hb2⟩
    have HF := Lib.hid (HB1.out.trans (hb2.mono HB1.out.size))
    clear hb2
    go_wp2
    go_ret
    exact ⟨rfl, HF.out⟩
  have d1 : decide ((868928 : Int) < need) = false := decide_eq_false hbig
  have hl := hu.1
  have hsum : IntKind.i64.wrap (need + (more : Int)) = need + (more : Int) := IntWalk.i64_in _ (by unfold Fits at hne; omega)
  have hconv : IntKind.i64.wrap (more : Int) = (more : Int) := IntWalk.i64_in _ (by omega)
  obtain ⟨nd, hnd⟩ : ∃ nd, nd = need + (more : Int) := ⟨_, rfl⟩
  have hsum2 : wrap64 (need + (more : Int)) = need + (more : Int) := w64_in _ (by unfold Fits at hne; omega)
  replace hsum := hsum.trans hnd.symm
  replace hsum2 := hsum2.trans hnd.symm
  have HND := Lib.hid (And.intro hnd (And.intro hmo hbig))
  have TF := Lib.hid (fun (z : Int) (W : World) (hW : Below w.heap.size w W) => fill_all A B C n c m d p pc us bs qs z W (hu.below hW) (h'.below hW) (hq.below hW) (by omega) (by omega) (by omega))
  have HU := Lib.hid hu
  have HBS := Lib.hid h'
  have HQ := Lib.hid hq
  have HLN := Lib.hid hl
  clear h h' hg hgs hL l1 l2 l3 hu hq hbig hl hnd
  go_enter Tryz.func6, Tryz.ntmps6
  go_wp2_with fail
  refine TL.out.mono ?_
  rintro e w0 ⟨rfl, hb0⟩
  have HB0 := Lib.hid hb0
  clear hb0 TL
  go_wp2_with fail
  refine (awake30_any _).mono ?_
  rintro e w1 ⟨rfl, hb1⟩
  have hB1 := HB0.out.trans (hb1.mono HB0.out.size)
  have T1 := Lib.hid (TF.out need w1 hB1)
  have HB1 := Lib.hid hB1
  clear hb1 hB1
  go_wp2_with fail
  refine T1.out.mono ?_
  rintro e w2 ⟨TA1, tn1, tc1, pr1, s1, F1, f1, g1, G1, i1, j1, rfl, hb2, hno1, hok1⟩
  have hx2 : Below w2.heap.size w2 (w2.alloc (.cells #[.bool s1, .slice F1 f1 g1, .bool false, .slice G1 i1 j1] 31)) := (Below.refl _ _).alloc (Nat.le_refl _) _
  have hN2 := Blk.new w2 31 #[.bool s1, .slice F1 f1 g1, .bool false, .slice G1 i1 j1]
  have H2 := Lib.hid (And.intro (HB1.out.trans ((hb2.trans (hx2.mono hb2.size)).mono HB1.out.size)) (And.intro hx2 (And.intro hN2 (And.intro hno1 hok1))))
  have T2 := Lib.hid (TF.out nd (w2.alloc (.cells #[.bool s1, .slice F1 f1 g1, .bool false, .slice G1 i1 j1] 31)) H2.out.1)
  clear T1 TF hb2 hx2 hN2 hno1 hok1
  go_wp2_with fail
  generalize w2.alloc (.cells #[.bool s1, .slice F1 f1 g1, .bool false, .slice G1 i1 j1] 31) = V2 at *
  refine T2.out.mono ?_
  rintro e w3 ⟨TA2, tn2, tc2, pr2, s2, F2, f2, g2, G2, i2, j2, rfl, hb3, hno2, hok2⟩
  have hx3 : Below w3.heap.size w3 (w3.alloc (.cells #[.bool s2, .slice F2 f2 g2, .bool false, .slice G2 i2 j2] 31)) := (Below.refl _ _).alloc (Nat.le_refl _) _
  have hN3 := Blk.new w3 31 #[.bool s2, .slice F2 f2 g2, .bool false, .slice G2 i2 j2]
  have H3 := Lib.hid (And.intro (hb3.trans (hx3.mono hb3.size)) (And.intro hx3 (And.intro hN3 (And.intro hno2 hok2))))
  have HBV := Lib.hid (H2.out.1.trans (H3.out.1.mono H2.out.1.size))
  clear T2 hb3 hx3 hN3 hno2 hok2
  by_cases hn0 : need < 0
  · have hr := rchk_neg (us := us) (bs := bs) (qs := qs) hn0
    have e1 : (rchk us bs qs need != 0) = true := by simpa using hr
    have e2 : decide (need < 0) = true := decide_eq_true hn0
    by_cases hxy : rchk us bs qs need = rchk us bs qs nd
    · rw [← hxy]
      generalize rchk us bs qs need = x at *
      have e3 : (x == x) = true := by simp
      clear hr hn0 hxy H2 H3
      go_wp2
      go_ret
      exact ⟨rfl, HBV.out⟩
    · have e3 : (rchk us bs qs need == rchk us bs qs nd) = false := by simpa using hxy
      generalize rchk us bs qs need = x at *
      generalize rchk us bs qs nd = y at *
      clear hr hn0 hxy H2 H3
      go_wp2
      go_ret
      exact ⟨rfl, HBV.out⟩
  have hsame : rchk us bs qs nd = rchk us bs qs need := rchk_same (by have := HND.out; omega) (by have := HND.out; omega) (by omega) (by have := HND.out; omega)
  by_cases hr : rchk us bs qs need = 0
  · have hr2 := hsame.trans hr
    obtain ⟨ord, ga, ho1, rfl, rfl, rfl, rfl, rfl, hR1, hQ1, hga, hl1, hl1'⟩ := H2.out.2.2.2.2 hr
    obtain ⟨ord2, gb, ho2, rfl, rfl, rfl, rfl, rfl, hR2, hQ2, hgb, hl2, hl2'⟩ := H3.out.2.2.2.2 hr2
    obtain ⟨q1, q2, q3, q4⟩ := mono30 hr hr2 (show need ≤ nd by have := HND.out; omega) (by rw [HLN.out]; exact ho1) (by rw [HLN.out]; exact ho2)
    have hroom : ∀ i, i < n → 0 ≤ umax (us[i]?.getD U0) ∧ umax (us[i]?.getD U0) ≤ 3000000 := fun i hi => by
      obtain ⟨k1, k2, k3⟩ := echk_ok (rchk_ok hr).1
      have := uchk_ok (k3 _ (getD_mem (d := U0) (by rw [HLN.out]; exact hi)))
      omega
    have hpn : p = n := by have g1 := (rchk_ok hr).2.1; have g2 := HQ.out.1; have g3 := HLN.out; omega
    have hmn : m = n := by have g1 := (echk_ok (rchk_ok hr).1).2.1; have g2 := HBS.out.1; have g3 := HLN.out; omega
    have HPM := Lib.hid (And.intro hpn hmn)
    clear hpn hmn
    have HM := Lib.hid (And.intro q3 (And.intro (fun i (hi : i < n) => q4 i (by rw [HLN.out]; exact hi)) hroom))
    rw [hr, hr2]
    have hk3 := H3.out.1
    have hB17 := H3.out.2.2.1
    have hB13 := H2.out.2.2.1.below hk3 H2.out.2.2.1.lt
    have hQ1 := (hQ1.below H2.out.2.1).below hk3
    have hR1 := (hR1.below H2.out.2.1).below hk3
    have hQ2 := hQ2.below H3.out.2.1
    have hR2 := hR2.below H3.out.2.1
    generalize (fillV us bs qs need ord).tk = t1 at *
    generalize (fillV us bs qs nd ord2).tk = t2 at *
    generalize (fillV us bs qs need ord).rest = r1 at *
    generalize (fillV us bs qs nd ord2).rest = r2 at *
    generalize (fillV us bs qs need ord).price = p1 at *
    generalize (fillV us bs qs nd ord2).price = p2 at *
    have TC := Lib.hid (cmp_k (hQ1.qk hl1' (by omega)) (hQ2.qk hl2' (by omega)))
    have d2 : decide (p2 < p1) = false := decide_eq_false (by omega)
    have d3 : decide (0 < cmpQ r1 r2) = false := by rw [cmp_pos]; exact decide_eq_false (by grind)
    have HX := Lib.hid (And.intro hR1 (And.intro hR2 (And.intro hl1 hl2)))
    have z0 : ((n : Int) != (n : Int)) = false := by simp
    obtain ⟨c0, c1, c2, c3, -, -, -, -⟩ := hB13.four
    obtain ⟨c4, c5, c6, c7, -, -, -, -⟩ := hB17.four
    generalize cmpQ r1 r2 = cv at *
    clear hsame hr hr2 hn0 H2 H3 ho1 ho2 q1 q2 q3 q4 hroom hk3 hB17 hB13 hQ1 hR1 hQ2 hR2 hga hgb hl1 hl1' hl2 hl2'
    go_wp2_with fail
    generalize w3.alloc (.cells #[.bool (decide (r2.num < 0)), .slice F2 f2 g2, .bool false, .slice G2 i2 j2] 31) = V3 at *
    refine TC.out.mono ?_
    rintro e V ⟨rfl, hb4⟩
    have HBV2 := Lib.hid (HBV.out.trans (hb4.mono HBV.out.size))
    have HX2 := Lib.hid (And.intro (HX.out.1.below hb4) (And.intro (HX.out.2.1.below hb4) HX.out.2.2))
    have HU2 := Lib.hid (HU.out.below HBV2.out)
    have HBS2 := Lib.hid (HBS.out.below HBV2.out)
    have HQ2 := Lib.hid (HQ.out.below HBV2.out)
    clear hb4 TC HX HBV HU HBS HQ c0 c1 c2 c3 c4 c5 c6 c7
    go_wp2_with fail
    go_loopw [19] (fun t wr => ∃ i : Nat, i ≤ n ∧ t = .int .i64 (i : Int) ∧ Hid (Kp V wr)) (fun t _ => n - (intOf t).toNat)
    case atStart => exact ⟨0, Nat.zero_le _, rfl, Kp.refl _⟩
    case round =>
      obtain ⟨i, hi, rfl, hK⟩ := hrel
      by_cases hlt : i < n
      · have him : i < m := by have := HPM.out; omega
        have hip : i < p := by have := HPM.out; omega
        obtain ⟨b, o, rfl, hb, hcell⟩ := HU2.out.2 (by omega)
        obtain ⟨b', o', rfl, hb', hcell'⟩ := HBS2.out.2 (by omega)
        obtain ⟨b2, o2, rfl, hb2, hcell2⟩ := HQ2.out.2 (by omega)
        obtain ⟨A5, k5, c5, A6, k6, c6, x0, x1, x2, x3, -, -, -, -, hk5, hk6, hW5, hW6⟩ := (HX2.out.1.below hK.out).cells hlt
        obtain ⟨A7, k7, c7, A8, k8, c8, y0, y1, y2, y3, -, -, -, -, hk7, hk8, hW7, hW8⟩ := (HX2.out.2.1.below hK.out).cells hlt
        have hga : ga < wr.heap.size := by obtain ⟨_, _, hx, _⟩ := HX2.out.1.below hK.out; exact hx.lt
        have hgb : gb < wr.heap.size := by obtain ⟨_, _, hx, _⟩ := HX2.out.2.1.below hK.out; exact hx.lt
        have hun := (hcell i hlt).below hb hK.out
        have hon := (Below.cell hK.out (p := ⟨b', o' + i, none⟩) hb').trans (hcell' i him)
        obtain ⟨an, aA, ak, ac, an', aA', ak', ac', z1, z2, z3, z4, hq⟩ := hcell2 i hip
        have z1 := (Below.cell hK.out (p := ⟨b2, o2 + i * 4, none⟩) hb2).trans z1
        have z2 := (Below.cell hK.out (p := ⟨b2, o2 + i * 4 + 1, none⟩) hb2).trans z2
        have z3 := (Below.cell hK.out (p := ⟨b2, o2 + i * 4 + 2, none⟩) hb2).trans z3
        have z4 := (Below.cell hK.out (p := ⟨b2, o2 + i * 4 + 3, none⟩) hb2).trans z4
        have hq := hq.below hK.out
        have hbr : b < wr.heap.size := Nat.lt_of_lt_of_le hb (Below.size hK.out)
        have hbr' : b' < wr.heap.size := Nat.lt_of_lt_of_le hb' (Below.size hK.out)
        have hbr2 : b2 < wr.heap.size := Nat.lt_of_lt_of_le hb2 (Below.size hK.out)
        have hm1 := HM.out.1 i
        have hm2 := HM.out.2.1 i hlt
        have hm3 := HM.out.2.2 i hlt
        unfold Rv.gt at hm1 hm2
        have hla := HX2.out.2.2.1 i hlt
        have hlb := HX2.out.2.2.2 i hlt
        generalize bs[i]?.getD false = bk at *
        generalize us[i]?.getD U0 = un at *
        generalize qs[i]?.getD 0 = q at *
        generalize t1[i]?.getD 0 = ta at *
        generalize t2[i]?.getD 0 = tb at *
        obtain ⟨bus, mn, st, up, dn, start, idle, spin, on⟩ := un
        obtain ⟨A', n', c', ⟨f1, f2, f3, f4, f5, f6, f7, f8, f9⟩, hs, hn'⟩ := hun
        simp only at f1 f2 f3 f4 f5 f6 f7 f8 f9 hs
        have TC := Lib.hid (fun (W : World) (hW : Kp wr W) => cmp_k (RQ.qk (RQ.below ⟨hk5, hk6, hW5, hW6⟩ hW) hla (by omega)) (RQ.qk (RQ.below ⟨hk7, hk8, hW7, hW8⟩ hW) hlb (by omega)))
        have TS := Lib.hid (fun (W : World) (hW : Kp wr W) => sign_k (RQ.qk (RQ.below ⟨hk7, hk8, hW7, hW8⟩ hW) hlb (by omega)))
        have hlr : Lv 1 (roomV bk ⟨bus, mn, st, up, dn, start, idle, spin, on⟩ q) := by
          unfold roomV
          split
          · exact (lv_int 0 (by omega)).sub hq.lv
          · exact lv_int 1 (by decide)
        have TR := Lib.hid (fun (W : World) (hW : Kp wr W) => room_any 0 (by omega) bk bus mn up dn start idle spin on A' aA aA' n' c' ak ac ak' ac' an an' st q W (hs.below hW) hn' (hq.below hW) hm3.1 hm3.2)
        have hz := sgn_nil (roomV bk ⟨bus, mn, st, up, dn, start, idle, spin, on⟩ q)
        generalize roomV bk ⟨bus, mn, st, up, dn, start, idle, spin, on⟩ q = rv at *
        have TG := Lib.hid (fun (W : World) (R R' : Option Addr) (k d k' d' : Nat) (h : RQ W rv R k d R' k' d') => sign_k (h.qk hlr (by omega)))
        have hcv := cmp_pos ta tb
        rw [decide_eq_false (show ¬ tb < ta by grind)] at hcv
        have hki1 : (0 : Int) ≤ (i : Int) := by omega
        have hki2 : (i : Int) < (n : Int) := by omega
        have hki3 : (i : Int) < (m : Int) := by omega
        have hki4 : (i : Int) < (p : Int) := by omega
        have k0 := Kp.refl wr
        have HS := Lib.hid (show ∀ w', Kp wr w' → (w'.cell? ⟨ga, i * 4, none⟩ = some (.bool (decide (ta.num < 0))) ∧ w'.cell? ⟨ga, i * 4 + 1, none⟩ = some (.slice A5 k5 c5) ∧ w'.cell? ⟨ga, i * 4 + 2, none⟩ = some (.bool false) ∧ w'.cell? ⟨ga, i * 4 + 3, none⟩ = some (.slice A6 k6 c6) ∧ w'.cell? ⟨gb, i * 4, none⟩ = some (.bool (decide (tb.num < 0))) ∧ w'.cell? ⟨gb, i * 4 + 1, none⟩ = some (.slice A7 k7 c7) ∧ w'.cell? ⟨gb, i * 4 + 2, none⟩ = some (.bool false) ∧ w'.cell? ⟨gb, i * 4 + 3, none⟩ = some (.slice A8 k8 c8) ∧ w'.cell? ⟨b, o + i * 9, none⟩ = some (.int .i64 bus) ∧ w'.cell? ⟨b, o + i * 9 + 1, none⟩ = some (.int .i64 mn) ∧ w'.cell? ⟨b, o + i * 9 + 2, none⟩ = some (.slice A' n' c') ∧ w'.cell? ⟨b, o + i * 9 + 3, none⟩ = some (.int .i64 up) ∧ w'.cell? ⟨b, o + i * 9 + 4, none⟩ = some (.int .i64 dn) ∧ w'.cell? ⟨b, o + i * 9 + 5, none⟩ = some (.int .i64 start) ∧ w'.cell? ⟨b, o + i * 9 + 6, none⟩ = some (.int .i64 idle) ∧ w'.cell? ⟨b, o + i * 9 + 7, none⟩ = some (.int .i64 spin) ∧ w'.cell? ⟨b, o + i * 9 + 8, none⟩ = some (.int .i64 on) ∧ w'.cell? ⟨b', o' + i, none⟩ = some (.bool bk) ∧ w'.cell? ⟨b2, o2 + i * 4, none⟩ = some (.bool an) ∧ w'.cell? ⟨b2, o2 + i * 4 + 1, none⟩ = some (.slice aA ak ac) ∧ w'.cell? ⟨b2, o2 + i * 4 + 2, none⟩ = some (.bool an') ∧ w'.cell? ⟨b2, o2 + i * 4 + 3, none⟩ = some (.slice aA' ak' ac')) ∧ Kp wr w' from fun w' hk => ⟨⟨(Below.cell hk (p := ⟨ga, _, none⟩) hga).trans x0, (Below.cell hk (p := ⟨ga, _, none⟩) hga).trans x1, (Below.cell hk (p := ⟨ga, _, none⟩) hga).trans x2, (Below.cell hk (p := ⟨ga, _, none⟩) hga).trans x3, (Below.cell hk (p := ⟨gb, _, none⟩) hgb).trans y0, (Below.cell hk (p := ⟨gb, _, none⟩) hgb).trans y1, (Below.cell hk (p := ⟨gb, _, none⟩) hgb).trans y2, (Below.cell hk (p := ⟨gb, _, none⟩) hgb).trans y3, (Below.cell hk (p := ⟨b, _, none⟩) hbr).trans f1, (Below.cell hk (p := ⟨b, _, none⟩) hbr).trans f2, (Below.cell hk (p := ⟨b, _, none⟩) hbr).trans f3, (Below.cell hk (p := ⟨b, _, none⟩) hbr).trans f4, (Below.cell hk (p := ⟨b, _, none⟩) hbr).trans f5, (Below.cell hk (p := ⟨b, _, none⟩) hbr).trans f6, (Below.cell hk (p := ⟨b, _, none⟩) hbr).trans f7, (Below.cell hk (p := ⟨b, _, none⟩) hbr).trans f8, (Below.cell hk (p := ⟨b, _, none⟩) hbr).trans f9, (Below.cell hk (p := ⟨b', _, none⟩) hbr').trans hon, (Below.cell hk (p := ⟨b2, _, none⟩) hbr2).trans z1, (Below.cell hk (p := ⟨b2, _, none⟩) hbr2).trans z2, (Below.cell hk (p := ⟨b2, _, none⟩) hbr2).trans z3, (Below.cell hk (p := ⟨b2, _, none⟩) hbr2).trans z4⟩, hk⟩)
        have HKW := Lib.hid hK.out
        have i1 : IntKind.i64.wrap ((i : Int) + 1) = ((i + 1 : Nat) : Int) := IntWalk.i64_in _ (by omega)
        clear hb hb' hb2 hcell hcell' hcell2 hK hk5 hk6 hW5 hW6 hk7 hk8 hW7 hW8 hga hgb hq hs hn' hbr hbr' hbr2 hm1 hm3 hla hlb hlr
        by_cases hrv : rv = 0
        · have hsv : sgnQ rv = 0 := hz.2 hrv
          have htb : sgnQ tb = 0 := by rw [hm2 hrv]; rfl
          rw [htb] at TS
          rw [hsv] at TG
          generalize cmpQ ta tb = cv at *
          clear hz hrv hsv htb hm2 x0 x1 x2 x3 y0 y1 y2 y3 f1 f2 f3 f4 f5 f6 f7 f8 f9 z1 z2 z3 z4 hon
          go_wp2_with fail
          refine wp_region_held_drew (S := fun w' => (w'.cell? ⟨ga, i * 4, none⟩ = some (.bool (decide (ta.num < 0))) ∧ w'.cell? ⟨ga, i * 4 + 1, none⟩ = some (.slice A5 k5 c5) ∧ w'.cell? ⟨ga, i * 4 + 2, none⟩ = some (.bool false) ∧ w'.cell? ⟨ga, i * 4 + 3, none⟩ = some (.slice A6 k6 c6) ∧ w'.cell? ⟨gb, i * 4, none⟩ = some (.bool (decide (tb.num < 0))) ∧ w'.cell? ⟨gb, i * 4 + 1, none⟩ = some (.slice A7 k7 c7) ∧ w'.cell? ⟨gb, i * 4 + 2, none⟩ = some (.bool false) ∧ w'.cell? ⟨gb, i * 4 + 3, none⟩ = some (.slice A8 k8 c8) ∧ w'.cell? ⟨b, o + i * 9, none⟩ = some (.int .i64 bus) ∧ w'.cell? ⟨b, o + i * 9 + 1, none⟩ = some (.int .i64 mn) ∧ w'.cell? ⟨b, o + i * 9 + 2, none⟩ = some (.slice A' n' c') ∧ w'.cell? ⟨b, o + i * 9 + 3, none⟩ = some (.int .i64 up) ∧ w'.cell? ⟨b, o + i * 9 + 4, none⟩ = some (.int .i64 dn) ∧ w'.cell? ⟨b, o + i * 9 + 5, none⟩ = some (.int .i64 start) ∧ w'.cell? ⟨b, o + i * 9 + 6, none⟩ = some (.int .i64 idle) ∧ w'.cell? ⟨b, o + i * 9 + 7, none⟩ = some (.int .i64 spin) ∧ w'.cell? ⟨b, o + i * 9 + 8, none⟩ = some (.int .i64 on) ∧ w'.cell? ⟨b', o' + i, none⟩ = some (.bool bk) ∧ w'.cell? ⟨b2, o2 + i * 4, none⟩ = some (.bool an) ∧ w'.cell? ⟨b2, o2 + i * 4 + 1, none⟩ = some (.slice aA ak ac) ∧ w'.cell? ⟨b2, o2 + i * 4 + 2, none⟩ = some (.bool an') ∧ w'.cell? ⟨b2, o2 + i * 4 + 3, none⟩ = some (.slice aA' ak' ac')) ∧ Kp wr w') (by kernel_rfl) (HS.out _ (Kp.drew k0)) (fun hHeld => ?_)
          refine wpAnyH_take (i := 0) (v := ?v1) rfl (by kernel_rfl) (by kernel_rfl) (by kernel_rfl) (fun _ _ _ h => h) (Or.inl ⟨by rfl, ?y1⟩) (by assumption) ?r1
          case y1 => (intro w hSw; (try dsimp only at hSw); (try simp only [List.getElem_toArray, List.getElem_cons_zero, List.getElem_cons_succ]); go_simp; first | done | with_reducible rfl)
          (try simp only [Act.put, List.getElem_toArray, List.getElem_cons_zero, List.getElem_cons_succ, List.setIfInBounds_toArray, List.set_cons_zero, List.set_cons_succ])
          refine wpAnyH_take (i := 1) (v := ?v2) rfl (by kernel_rfl) (by kernel_rfl) (by kernel_rfl) (fun _ _ _ h => h) (Or.inl ⟨by rfl, ?y2⟩) (by assumption) ?r2
          case y2 => (intro w hSw; (try dsimp only at hSw); (try simp only [List.getElem_toArray, List.getElem_cons_zero, List.getElem_cons_succ]); go_simp; first | done | with_reducible rfl)
          (try simp only [Act.put, List.getElem_toArray, List.getElem_cons_zero, List.getElem_cons_succ, List.setIfInBounds_toArray, List.set_cons_zero, List.set_cons_succ])
          refine wpAnyH_take (i := 2) (v := ?v3) rfl (by kernel_rfl) (by kernel_rfl) (by kernel_rfl) (fun _ _ _ h => h) (Or.inl ⟨by rfl, ?y3⟩) (by assumption) ?r3
          case y3 => (intro w hSw; (try dsimp only at hSw); (try simp only [List.getElem_toArray, List.getElem_cons_zero, List.getElem_cons_succ]); go_simp; first | done | with_reducible rfl)
          (try simp only [Act.put, List.getElem_toArray, List.getElem_cons_zero, List.getElem_cons_succ, List.setIfInBounds_toArray, List.set_cons_zero, List.set_cons_succ])
          refine wpAnyH_take (i := 3) (v := ?v4) rfl (by kernel_rfl) (by kernel_rfl) (by kernel_rfl) (fun _ _ _ h => h) (Or.inl ⟨by rfl, ?y4⟩) (by assumption) ?r4
          case y4 => (intro w hSw; (try dsimp only at hSw); (try simp only [List.getElem_toArray, List.getElem_cons_zero, List.getElem_cons_succ]); go_simp; first | done | with_reducible rfl)
          (try simp only [Act.put, List.getElem_toArray, List.getElem_cons_zero, List.getElem_cons_succ, List.setIfInBounds_toArray, List.set_cons_zero, List.set_cons_succ])
          refine wpAnyH_take (i := 4) (v := ?v5) rfl (by kernel_rfl) (by kernel_rfl) (by kernel_rfl) (fun _ _ _ h => h) (Or.inl ⟨by rfl, ?y5⟩) (by assumption) ?r5
          case y5 => (intro w hSw; (try dsimp only at hSw); (try simp only [List.getElem_toArray, List.getElem_cons_zero, List.getElem_cons_succ]); go_simp; first | done | with_reducible rfl)
          (try simp only [Act.put, List.getElem_toArray, List.getElem_cons_zero, List.getElem_cons_succ, List.setIfInBounds_toArray, List.set_cons_zero, List.set_cons_succ])
          refine wpAnyH_take (i := 5) (v := ?v6) rfl (by kernel_rfl) (by kernel_rfl) (by kernel_rfl) (fun _ _ _ h => h) (Or.inl ⟨by rfl, ?y6⟩) (by assumption) ?r6
          case y6 => (intro w hSw; (try dsimp only at hSw); (try simp only [List.getElem_toArray, List.getElem_cons_zero, List.getElem_cons_succ]); go_simp; first | done | with_reducible rfl)
          (try simp only [Act.put, List.getElem_toArray, List.getElem_cons_zero, List.getElem_cons_succ, List.setIfInBounds_toArray, List.set_cons_zero, List.set_cons_succ])
          refine wpAnyH_take (i := 6) (v := ?v7) rfl (by kernel_rfl) (by kernel_rfl) (by kernel_rfl) (fun _ _ _ h => h) (Or.inl ⟨by rfl, ?y7⟩) (by assumption) ?r7
          case y7 => (intro w hSw; (try dsimp only at hSw); (try simp only [List.getElem_toArray, List.getElem_cons_zero, List.getElem_cons_succ]); go_simp; first | done | with_reducible rfl)
          (try simp only [Act.put, List.getElem_toArray, List.getElem_cons_zero, List.getElem_cons_succ, List.setIfInBounds_toArray, List.set_cons_zero, List.set_cons_succ])
          refine wpAnyH_take (i := 7) (v := ?v8) rfl (by kernel_rfl) (by kernel_rfl) (by kernel_rfl) (fun _ _ _ h => h) (Or.inl ⟨by rfl, ?y8⟩) (by assumption) ?r8
          case y8 => (intro w hSw; (try dsimp only at hSw); (try simp only [List.getElem_toArray, List.getElem_cons_zero, List.getElem_cons_succ]); go_simp; first | done | with_reducible rfl)
          (try simp only [Act.put, List.getElem_toArray, List.getElem_cons_zero, List.getElem_cons_succ, List.setIfInBounds_toArray, List.set_cons_zero, List.set_cons_succ])
          refine wpAnyH_ready (rs := [8]) (by kernel_rfl) (by simp) ?_
          refine AllReadyH.cons rfl (fun K hK => ?_) ?_
          · (try simp only [List.getElem_toArray, List.getElem_cons_zero, List.getElem_cons_succ])
            go_simp
            have hk := And.right ‹_ ∧ Kp wr _›
            refine (TC.out _ hk).mono ?_
            rintro e v1 ⟨rfl, hbx⟩
            have hp := Kp.trans hk hbx
            clear hk hbx
            (try (go_wp2_with fail))
            refine hK.out _ _ ?k10 (fun hHeld10 => ?n10)
            case k10 => ((try dsimp only); first | (with_reducible refine HS.out _ ?_; with_reducible assumption) | (with_reducible refine HS.out _ (Kp.drew ?_); with_reducible assumption) | (with_reducible refine' HS.out _ (Kp.drew (And.right ?_)); rotate_left; with_reducible assumption))
            clear hK K
            (try simp only [Act.put, List.getElem_toArray, List.getElem_cons_zero, List.getElem_cons_succ, List.setIfInBounds_toArray, List.set_cons_zero, List.set_cons_succ])
            refine wpAnyH_take (i := 9) (v := ?v11) rfl (by kernel_rfl) (by kernel_rfl) (by kernel_rfl) (fun _ _ _ h => h) (Or.inl ⟨by rfl, ?y11⟩) (by assumption) ?r11
            case y11 => (intro w hSw; (try dsimp only at hSw); (try simp only [List.getElem_toArray, List.getElem_cons_zero, List.getElem_cons_succ]); go_simp; first | done | with_reducible rfl)
            (try simp only [Act.put, List.getElem_toArray, List.getElem_cons_zero, List.getElem_cons_succ, List.setIfInBounds_toArray, List.set_cons_zero, List.set_cons_succ])
            refine wpAnyH_take (i := 10) (v := ?v12) rfl (by kernel_rfl) (by kernel_rfl) (by kernel_rfl) (fun _ _ _ h => h) (Or.inl ⟨by rfl, ?y12⟩) (by assumption) ?r12
            case y12 => (intro w hSw; (try dsimp only at hSw); (try simp only [List.getElem_toArray, List.getElem_cons_zero, List.getElem_cons_succ]); go_simp; first | done | with_reducible rfl)
            (try simp only [Act.put, List.getElem_toArray, List.getElem_cons_zero, List.getElem_cons_succ, List.setIfInBounds_toArray, List.set_cons_zero, List.set_cons_succ])
            refine wpAnyH_take (i := 11) (v := ?v13) rfl (by kernel_rfl) (by kernel_rfl) (by kernel_rfl) (fun _ _ _ h => h) (Or.inl ⟨by rfl, ?y13⟩) (by assumption) ?r13
            case y13 => (intro w hSw; (try dsimp only at hSw); (try simp only [List.getElem_toArray, List.getElem_cons_zero, List.getElem_cons_succ]); go_simp; first | done | with_reducible rfl)
            (try simp only [Act.put, List.getElem_toArray, List.getElem_cons_zero, List.getElem_cons_succ, List.setIfInBounds_toArray, List.set_cons_zero, List.set_cons_succ])
            refine wpAnyH_take (i := 12) (v := ?v14) rfl (by kernel_rfl) (by kernel_rfl) (by kernel_rfl) (fun _ _ _ h => h) (Or.inl ⟨by rfl, ?y14⟩) (by assumption) ?r14
            case y14 => (intro w hSw; (try dsimp only at hSw); (try simp only [List.getElem_toArray, List.getElem_cons_zero, List.getElem_cons_succ]); go_simp; first | done | with_reducible rfl)
            (try simp only [Act.put, List.getElem_toArray, List.getElem_cons_zero, List.getElem_cons_succ, List.setIfInBounds_toArray, List.set_cons_zero, List.set_cons_succ])
            refine wpAnyH_take (i := 13) (v := ?v15) rfl (by kernel_rfl) (by kernel_rfl) (by kernel_rfl) (fun _ _ _ h => h) (Or.inl ⟨by rfl, ?y15⟩) (by assumption) ?r15
            case y15 => (intro w hSw; (try dsimp only at hSw); (try simp only [List.getElem_toArray, List.getElem_cons_zero, List.getElem_cons_succ]); go_simp; first | done | with_reducible rfl)
            (try simp only [Act.put, List.getElem_toArray, List.getElem_cons_zero, List.getElem_cons_succ, List.setIfInBounds_toArray, List.set_cons_zero, List.set_cons_succ])
            refine wpAnyH_take (i := 14) (v := ?v16) rfl (by kernel_rfl) (by kernel_rfl) (by kernel_rfl) (fun _ _ _ h => h) (Or.inl ⟨by rfl, ?y16⟩) (by assumption) ?r16
            case y16 => (intro w hSw; (try dsimp only at hSw); (try simp only [List.getElem_toArray, List.getElem_cons_zero, List.getElem_cons_succ]); go_simp; first | done | with_reducible rfl)
            (try simp only [Act.put, List.getElem_toArray, List.getElem_cons_zero, List.getElem_cons_succ, List.setIfInBounds_toArray, List.set_cons_zero, List.set_cons_succ])
            refine wpAnyH_take (i := 15) (v := ?v17) rfl (by kernel_rfl) (by kernel_rfl) (by kernel_rfl) (fun _ _ _ h => h) (Or.inl ⟨by rfl, ?y17⟩) (by assumption) ?r17
            case y17 => (intro w hSw; (try dsimp only at hSw); (try simp only [List.getElem_toArray, List.getElem_cons_zero, List.getElem_cons_succ]); go_simp; first | done | with_reducible rfl)
            (try simp only [Act.put, List.getElem_toArray, List.getElem_cons_zero, List.getElem_cons_succ, List.setIfInBounds_toArray, List.set_cons_zero, List.set_cons_succ])
            refine wpAnyH_take (i := 16) (v := ?v18) rfl (by kernel_rfl) (by kernel_rfl) (by kernel_rfl) (fun _ _ _ h => h) (Or.inl ⟨by rfl, ?y18⟩) (by assumption) ?r18
            case y18 => (intro w hSw; (try dsimp only at hSw); (try simp only [List.getElem_toArray, List.getElem_cons_zero, List.getElem_cons_succ]); go_simp; first | done | with_reducible rfl)
            (try simp only [Act.put, List.getElem_toArray, List.getElem_cons_zero, List.getElem_cons_succ, List.setIfInBounds_toArray, List.set_cons_zero, List.set_cons_succ])
            refine wpAnyH_take (i := 17) (v := ?v19) rfl (by kernel_rfl) (by kernel_rfl) (by kernel_rfl) (fun _ _ _ h => h) (Or.inl ⟨by rfl, ?y19⟩) (by assumption) ?r19
            case y19 => (intro w hSw; (try dsimp only at hSw); (try simp only [List.getElem_toArray, List.getElem_cons_zero, List.getElem_cons_succ]); go_simp; first | done | with_reducible rfl)
            (try simp only [Act.put, List.getElem_toArray, List.getElem_cons_zero, List.getElem_cons_succ, List.setIfInBounds_toArray, List.set_cons_zero, List.set_cons_succ])
            refine wpAnyH_take (i := 18) (v := ?v20) rfl (by kernel_rfl) (by kernel_rfl) (by kernel_rfl) (fun _ _ _ h => h) (Or.inl ⟨by rfl, ?y20⟩) (by assumption) ?r20
            case y20 => (intro w hSw; (try dsimp only at hSw); (try simp only [List.getElem_toArray, List.getElem_cons_zero, List.getElem_cons_succ]); go_simp; first | done | with_reducible rfl)
            (try simp only [Act.put, List.getElem_toArray, List.getElem_cons_zero, List.getElem_cons_succ, List.setIfInBounds_toArray, List.set_cons_zero, List.set_cons_succ])
            refine wpAnyH_take (i := 19) (v := ?v21) rfl (by kernel_rfl) (by kernel_rfl) (by kernel_rfl) (fun _ _ _ h => h) (Or.inl ⟨by rfl, ?y21⟩) (by assumption) ?r21
            case y21 => (intro w hSw; (try dsimp only at hSw); (try simp only [List.getElem_toArray, List.getElem_cons_zero, List.getElem_cons_succ]); go_simp; first | done | with_reducible rfl)
            (try simp only [Act.put, List.getElem_toArray, List.getElem_cons_zero, List.getElem_cons_succ, List.setIfInBounds_toArray, List.set_cons_zero, List.set_cons_succ])
            refine wpAnyH_take (i := 20) (v := ?v22) rfl (by kernel_rfl) (by kernel_rfl) (by kernel_rfl) (fun _ _ _ h => h) (Or.inl ⟨by rfl, ?y22⟩) (by assumption) ?r22
            case y22 => (intro w hSw; (try dsimp only at hSw); (try simp only [List.getElem_toArray, List.getElem_cons_zero, List.getElem_cons_succ]); go_simp; first | done | with_reducible rfl)
            (try simp only [Act.put, List.getElem_toArray, List.getElem_cons_zero, List.getElem_cons_succ, List.setIfInBounds_toArray, List.set_cons_zero, List.set_cons_succ])
            refine wpAnyH_take (i := 21) (v := ?v23) rfl (by kernel_rfl) (by kernel_rfl) (by kernel_rfl) (fun _ _ _ h => h) (Or.inl ⟨by rfl, ?y23⟩) (by assumption) ?r23
            case y23 => (intro w hSw; (try dsimp only at hSw); (try simp only [List.getElem_toArray, List.getElem_cons_zero, List.getElem_cons_succ]); go_simp; first | done | with_reducible rfl)
            (try simp only [Act.put, List.getElem_toArray, List.getElem_cons_zero, List.getElem_cons_succ, List.setIfInBounds_toArray, List.set_cons_zero, List.set_cons_succ])
            refine wpAnyH_take (i := 22) (v := ?v24) rfl (by kernel_rfl) (by kernel_rfl) (by kernel_rfl) (fun _ _ _ h => h) (Or.inl ⟨by rfl, ?y24⟩) (by assumption) ?r24
            case y24 => (intro w hSw; (try dsimp only at hSw); (try simp only [List.getElem_toArray, List.getElem_cons_zero, List.getElem_cons_succ]); go_simp; first | done | with_reducible rfl)
            (try simp only [Act.put, List.getElem_toArray, List.getElem_cons_zero, List.getElem_cons_succ, List.setIfInBounds_toArray, List.set_cons_zero, List.set_cons_succ])
            refine wpAnyH_ready (rs := [23]) (by kernel_rfl) (by simp) ?_
            refine AllReadyH.cons rfl (fun K hK => ?_) ?_
            · (try simp only [List.getElem_toArray, List.getElem_cons_zero, List.getElem_cons_succ])
              go_simp
              have hk := And.right ‹_ ∧ Kp wr _›
              refine (TR.out _ hk).mono ?_
              rintro e v2 ⟨A9, k9, c9, B9, j9, e9, rfl, hk9, hj9, hW9, hX9, -, -, hbx⟩
              have hp := Kp.trans hk hbx
              have r9 : RQ v2 rv A9 k9 c9 B9 j9 e9 := ⟨hk9, hj9, hW9, hX9⟩
              clear hk hbx hk9 hj9 hW9 hX9
              (try (go_wp2_with fail))
              refine hK.out _ _ ?k26 (fun hHeld26 => ?n26)
              case k26 => ((try dsimp only); first | (with_reducible refine HS.out _ ?_; with_reducible assumption) | (with_reducible refine HS.out _ (Kp.drew ?_); with_reducible assumption) | (with_reducible refine' HS.out _ (Kp.drew (And.right ?_)); rotate_left; with_reducible assumption))
              clear hK K
              (try simp only [Act.put, List.getElem_toArray, List.getElem_cons_zero, List.getElem_cons_succ, List.setIfInBounds_toArray, List.set_cons_zero, List.set_cons_succ])
              refine wpAnyH_ready (rs := [24]) (by kernel_rfl) (by simp) ?_
              refine AllReadyH.cons rfl (fun K hK => ?_) ?_
              · (try simp only [List.getElem_toArray, List.getElem_cons_zero, List.getElem_cons_succ])
                go_simp
                have hk := And.right ‹_ ∧ Kp wr _›
                refine (TG.out _ _ _ _ _ _ _ r9).mono ?_
                rintro e v3 ⟨rfl, hbx⟩
                have hp := Kp.trans hk hbx
                clear hk hbx r9
                (try (go_wp2_with fail))
                refine hK.out _ _ ?k28 (fun hHeld28 => ?n28)
                case k28 => ((try dsimp only); first | (with_reducible refine HS.out _ ?_; with_reducible assumption) | (with_reducible refine HS.out _ (Kp.drew ?_); with_reducible assumption) | (with_reducible refine' HS.out _ (Kp.drew (And.right ?_)); rotate_left; with_reducible assumption))
                clear hK K
                (try simp only [Act.put, List.getElem_toArray, List.getElem_cons_zero, List.getElem_cons_succ, List.setIfInBounds_toArray, List.set_cons_zero, List.set_cons_succ])
                refine wpAnyH_take (i := 25) (v := ?v29) rfl (by kernel_rfl) (by kernel_rfl) (by kernel_rfl) (fun _ _ _ h => h) (Or.inl ⟨by rfl, ?y29⟩) (by assumption) ?r29
                case y29 => (intro w hSw; (try dsimp only at hSw); (try simp only [List.getElem_toArray, List.getElem_cons_zero, List.getElem_cons_succ]); go_simp; first | done | with_reducible rfl)
                (try simp only [Act.put, List.getElem_toArray, List.getElem_cons_zero, List.getElem_cons_succ, List.setIfInBounds_toArray, List.set_cons_zero, List.set_cons_succ])
                refine wpAnyH_take (i := 26) (v := ?v30) rfl (by kernel_rfl) (by kernel_rfl) (by kernel_rfl) (fun _ _ _ h => h) (Or.inl ⟨by rfl, ?y30⟩) (by assumption) ?r30
                case y30 => (intro w hSw; (try dsimp only at hSw); (try simp only [List.getElem_toArray, List.getElem_cons_zero, List.getElem_cons_succ]); go_simp; first | done | with_reducible rfl)
                (try simp only [Act.put, List.getElem_toArray, List.getElem_cons_zero, List.getElem_cons_succ, List.setIfInBounds_toArray, List.set_cons_zero, List.set_cons_succ])
                refine wpAnyH_take (i := 27) (v := ?v31) rfl (by kernel_rfl) (by kernel_rfl) (by kernel_rfl) (fun _ _ _ h => h) (Or.inl ⟨by rfl, ?y31⟩) (by assumption) ?r31
                case y31 => (intro w hSw; (try dsimp only at hSw); (try simp only [List.getElem_toArray, List.getElem_cons_zero, List.getElem_cons_succ]); go_simp; first | done | with_reducible rfl)
                (try simp only [Act.put, List.getElem_toArray, List.getElem_cons_zero, List.getElem_cons_succ, List.setIfInBounds_toArray, List.set_cons_zero, List.set_cons_succ])
                refine wpAnyH_take (i := 28) (v := ?v32) rfl (by kernel_rfl) (by kernel_rfl) (by kernel_rfl) (fun _ _ _ h => h) (Or.inl ⟨by rfl, ?y32⟩) (by assumption) ?r32
                case y32 => (intro w hSw; (try dsimp only at hSw); (try simp only [List.getElem_toArray, List.getElem_cons_zero, List.getElem_cons_succ]); go_simp; first | done | with_reducible rfl)
                (try simp only [Act.put, List.getElem_toArray, List.getElem_cons_zero, List.getElem_cons_succ, List.setIfInBounds_toArray, List.set_cons_zero, List.set_cons_succ])
                refine wpAnyH_take (i := 29) (v := ?v33) rfl (by kernel_rfl) (by kernel_rfl) (by kernel_rfl) (fun _ _ _ h => h) (Or.inl ⟨by rfl, ?y33⟩) (by assumption) ?r33
                case y33 => (intro w hSw; (try dsimp only at hSw); (try simp only [List.getElem_toArray, List.getElem_cons_zero, List.getElem_cons_succ]); go_simp; first | done | with_reducible rfl)
                (try simp only [Act.put, List.getElem_toArray, List.getElem_cons_zero, List.getElem_cons_succ, List.setIfInBounds_toArray, List.set_cons_zero, List.set_cons_succ])
                refine wpAnyH_take (i := 30) (v := ?v34) rfl (by kernel_rfl) (by kernel_rfl) (by kernel_rfl) (fun _ _ _ h => h) (Or.inl ⟨by rfl, ?y34⟩) (by assumption) ?r34
                case y34 => (intro w hSw; (try dsimp only at hSw); (try simp only [List.getElem_toArray, List.getElem_cons_zero, List.getElem_cons_succ]); go_simp; first | done | with_reducible rfl)
                (try simp only [Act.put, List.getElem_toArray, List.getElem_cons_zero, List.getElem_cons_succ, List.setIfInBounds_toArray, List.set_cons_zero, List.set_cons_succ])
                refine wpAnyH_ready (rs := [31]) (by kernel_rfl) (by simp) ?_
                refine AllReadyH.cons rfl (fun K hK => ?_) ?_
                · (try simp only [List.getElem_toArray, List.getElem_cons_zero, List.getElem_cons_succ])
                  go_simp
                  have hk := And.right ‹_ ∧ Kp wr _›
                  refine (TS.out _ hk).mono ?_
                  rintro e v4 ⟨rfl, hbx⟩
                  have hp := Kp.trans hk hbx
                  clear hk hbx
                  (try (go_wp2_with fail))
                  refine hK.out _ _ ?k36 (fun hHeld36 => ?n36)
                  case k36 => ((try dsimp only); first | (with_reducible refine HS.out _ ?_; with_reducible assumption) | (with_reducible refine HS.out _ (Kp.drew ?_); with_reducible assumption) | (with_reducible refine' HS.out _ (Kp.drew (And.right ?_)); rotate_left; with_reducible assumption))
                  clear hK K
                  (try simp only [Act.put, List.getElem_toArray, List.getElem_cons_zero, List.getElem_cons_succ, List.setIfInBounds_toArray, List.set_cons_zero, List.set_cons_succ])
                  refine wpAnyH_take (i := 32) (v := ?v37) rfl (by kernel_rfl) (by kernel_rfl) (by kernel_rfl) (fun _ _ _ h => h) (Or.inl ⟨by rfl, ?y37⟩) (by assumption) ?r37
                  case y37 => (intro w hSw; (try dsimp only at hSw); (try simp only [List.getElem_toArray, List.getElem_cons_zero, List.getElem_cons_succ]); go_simp; first | done | with_reducible rfl)
                  (try simp only [Act.put, List.getElem_toArray, List.getElem_cons_zero, List.getElem_cons_succ, List.setIfInBounds_toArray, List.set_cons_zero, List.set_cons_succ])
                  refine wpAnyH_take (i := 33) (v := ?v38) rfl (by kernel_rfl) (by kernel_rfl) (by kernel_rfl) (fun _ _ _ h => h) (Or.inl ⟨by rfl, ?y38⟩) (by assumption) ?r38
                  case y38 => (intro w hSw; (try dsimp only at hSw); (try simp only [List.getElem_toArray, List.getElem_cons_zero, List.getElem_cons_succ]); go_simp; first | done | with_reducible rfl)
                  (try simp only [Act.put, List.getElem_toArray, List.getElem_cons_zero, List.getElem_cons_succ, List.setIfInBounds_toArray, List.set_cons_zero, List.set_cons_succ])
                  refine wpAnyH_take (i := 34) (v := ?v39) rfl (by kernel_rfl) (by kernel_rfl) (by kernel_rfl) (fun _ _ _ h => h) (Or.inl ⟨by rfl, ?y39⟩) (by assumption) ?r39
                  case y39 => (intro w hSw; (try dsimp only at hSw); (try simp only [List.getElem_toArray, List.getElem_cons_zero, List.getElem_cons_succ]); go_simp; first | done | with_reducible rfl)
                  (try simp only [Act.put, List.getElem_toArray, List.getElem_cons_zero, List.getElem_cons_succ, List.setIfInBounds_toArray, List.set_cons_zero, List.set_cons_succ])
                  refine wpAnyH_done (by kernel_rfl) ?_ _
                  have HF := Lib.hid (Kp.trans HKW.out hp)
                  clear hp
                  go_wp2
                  go_roundw
                  case rel => exact ⟨i + 1, by omega, by first | rfl | go_num, HF.out⟩
                  case measure => simp [intOf]; omega
                exact AllReadyH.nil
              exact AllReadyH.nil
            exact AllReadyH.nil
          exact AllReadyH.nil
        · have hsv : (sgnQ rv == 0) = false := by simpa using fun h => hrv (hz.1 h)
          generalize cmpQ ta tb = cv at *
          generalize sgnQ rv = sv at *
          clear hz hrv hm2 x0 x1 x2 x3 y0 y1 y2 y3 f1 f2 f3 f4 f5 f6 f7 f8 f9 z1 z2 z3 z4 hon
          go_wp2_with fail
          refine wp_region_held_drew (S := fun w' => (w'.cell? ⟨ga, i * 4, none⟩ = some (.bool (decide (ta.num < 0))) ∧ w'.cell? ⟨ga, i * 4 + 1, none⟩ = some (.slice A5 k5 c5) ∧ w'.cell? ⟨ga, i * 4 + 2, none⟩ = some (.bool false) ∧ w'.cell? ⟨ga, i * 4 + 3, none⟩ = some (.slice A6 k6 c6) ∧ w'.cell? ⟨gb, i * 4, none⟩ = some (.bool (decide (tb.num < 0))) ∧ w'.cell? ⟨gb, i * 4 + 1, none⟩ = some (.slice A7 k7 c7) ∧ w'.cell? ⟨gb, i * 4 + 2, none⟩ = some (.bool false) ∧ w'.cell? ⟨gb, i * 4 + 3, none⟩ = some (.slice A8 k8 c8) ∧ w'.cell? ⟨b, o + i * 9, none⟩ = some (.int .i64 bus) ∧ w'.cell? ⟨b, o + i * 9 + 1, none⟩ = some (.int .i64 mn) ∧ w'.cell? ⟨b, o + i * 9 + 2, none⟩ = some (.slice A' n' c') ∧ w'.cell? ⟨b, o + i * 9 + 3, none⟩ = some (.int .i64 up) ∧ w'.cell? ⟨b, o + i * 9 + 4, none⟩ = some (.int .i64 dn) ∧ w'.cell? ⟨b, o + i * 9 + 5, none⟩ = some (.int .i64 start) ∧ w'.cell? ⟨b, o + i * 9 + 6, none⟩ = some (.int .i64 idle) ∧ w'.cell? ⟨b, o + i * 9 + 7, none⟩ = some (.int .i64 spin) ∧ w'.cell? ⟨b, o + i * 9 + 8, none⟩ = some (.int .i64 on) ∧ w'.cell? ⟨b', o' + i, none⟩ = some (.bool bk) ∧ w'.cell? ⟨b2, o2 + i * 4, none⟩ = some (.bool an) ∧ w'.cell? ⟨b2, o2 + i * 4 + 1, none⟩ = some (.slice aA ak ac) ∧ w'.cell? ⟨b2, o2 + i * 4 + 2, none⟩ = some (.bool an') ∧ w'.cell? ⟨b2, o2 + i * 4 + 3, none⟩ = some (.slice aA' ak' ac')) ∧ Kp wr w') (by kernel_rfl) (HS.out _ (Kp.drew k0)) (fun hHeld => ?_)
          refine wpAnyH_take (i := 0) (v := ?v40) rfl (by kernel_rfl) (by kernel_rfl) (by kernel_rfl) (fun _ _ _ h => h) (Or.inl ⟨by rfl, ?y40⟩) (by assumption) ?r40
          case y40 => (intro w hSw; (try dsimp only at hSw); (try simp only [List.getElem_toArray, List.getElem_cons_zero, List.getElem_cons_succ]); go_simp; first | done | with_reducible rfl)
          (try simp only [Act.put, List.getElem_toArray, List.getElem_cons_zero, List.getElem_cons_succ, List.setIfInBounds_toArray, List.set_cons_zero, List.set_cons_succ])
          refine wpAnyH_take (i := 1) (v := ?v41) rfl (by kernel_rfl) (by kernel_rfl) (by kernel_rfl) (fun _ _ _ h => h) (Or.inl ⟨by rfl, ?y41⟩) (by assumption) ?r41
          case y41 => (intro w hSw; (try dsimp only at hSw); (try simp only [List.getElem_toArray, List.getElem_cons_zero, List.getElem_cons_succ]); go_simp; first | done | with_reducible rfl)
          (try simp only [Act.put, List.getElem_toArray, List.getElem_cons_zero, List.getElem_cons_succ, List.setIfInBounds_toArray, List.set_cons_zero, List.set_cons_succ])
          refine wpAnyH_take (i := 2) (v := ?v42) rfl (by kernel_rfl) (by kernel_rfl) (by kernel_rfl) (fun _ _ _ h => h) (Or.inl ⟨by rfl, ?y42⟩) (by assumption) ?r42
          case y42 => (intro w hSw; (try dsimp only at hSw); (try simp only [List.getElem_toArray, List.getElem_cons_zero, List.getElem_cons_succ]); go_simp; first | done | with_reducible rfl)
          (try simp only [Act.put, List.getElem_toArray, List.getElem_cons_zero, List.getElem_cons_succ, List.setIfInBounds_toArray, List.set_cons_zero, List.set_cons_succ])
          refine wpAnyH_take (i := 3) (v := ?v43) rfl (by kernel_rfl) (by kernel_rfl) (by kernel_rfl) (fun _ _ _ h => h) (Or.inl ⟨by rfl, ?y43⟩) (by assumption) ?r43
          case y43 => (intro w hSw; (try dsimp only at hSw); (try simp only [List.getElem_toArray, List.getElem_cons_zero, List.getElem_cons_succ]); go_simp; first | done | with_reducible rfl)
          (try simp only [Act.put, List.getElem_toArray, List.getElem_cons_zero, List.getElem_cons_succ, List.setIfInBounds_toArray, List.set_cons_zero, List.set_cons_succ])
          refine wpAnyH_take (i := 4) (v := ?v44) rfl (by kernel_rfl) (by kernel_rfl) (by kernel_rfl) (fun _ _ _ h => h) (Or.inl ⟨by rfl, ?y44⟩) (by assumption) ?r44
          case y44 => (intro w hSw; (try dsimp only at hSw); (try simp only [List.getElem_toArray, List.getElem_cons_zero, List.getElem_cons_succ]); go_simp; first | done | with_reducible rfl)
          (try simp only [Act.put, List.getElem_toArray, List.getElem_cons_zero, List.getElem_cons_succ, List.setIfInBounds_toArray, List.set_cons_zero, List.set_cons_succ])
          refine wpAnyH_take (i := 5) (v := ?v45) rfl (by kernel_rfl) (by kernel_rfl) (by kernel_rfl) (fun _ _ _ h => h) (Or.inl ⟨by rfl, ?y45⟩) (by assumption) ?r45
          case y45 => (intro w hSw; (try dsimp only at hSw); (try simp only [List.getElem_toArray, List.getElem_cons_zero, List.getElem_cons_succ]); go_simp; first | done | with_reducible rfl)
          (try simp only [Act.put, List.getElem_toArray, List.getElem_cons_zero, List.getElem_cons_succ, List.setIfInBounds_toArray, List.set_cons_zero, List.set_cons_succ])
          refine wpAnyH_take (i := 6) (v := ?v46) rfl (by kernel_rfl) (by kernel_rfl) (by kernel_rfl) (fun _ _ _ h => h) (Or.inl ⟨by rfl, ?y46⟩) (by assumption) ?r46
          case y46 => (intro w hSw; (try dsimp only at hSw); (try simp only [List.getElem_toArray, List.getElem_cons_zero, List.getElem_cons_succ]); go_simp; first | done | with_reducible rfl)
          (try simp only [Act.put, List.getElem_toArray, List.getElem_cons_zero, List.getElem_cons_succ, List.setIfInBounds_toArray, List.set_cons_zero, List.set_cons_succ])
          refine wpAnyH_take (i := 7) (v := ?v47) rfl (by kernel_rfl) (by kernel_rfl) (by kernel_rfl) (fun _ _ _ h => h) (Or.inl ⟨by rfl, ?y47⟩) (by assumption) ?r47
          case y47 => (intro w hSw; (try dsimp only at hSw); (try simp only [List.getElem_toArray, List.getElem_cons_zero, List.getElem_cons_succ]); go_simp; first | done | with_reducible rfl)
          (try simp only [Act.put, List.getElem_toArray, List.getElem_cons_zero, List.getElem_cons_succ, List.setIfInBounds_toArray, List.set_cons_zero, List.set_cons_succ])
          refine wpAnyH_ready (rs := [8]) (by kernel_rfl) (by simp) ?_
          refine AllReadyH.cons rfl (fun K hK => ?_) ?_
          · (try simp only [List.getElem_toArray, List.getElem_cons_zero, List.getElem_cons_succ])
            go_simp
            have hk := And.right ‹_ ∧ Kp wr _›
            refine (TC.out _ hk).mono ?_
            rintro e v1 ⟨rfl, hbx⟩
            have hp := Kp.trans hk hbx
            clear hk hbx
            (try (go_wp2_with fail))
            refine hK.out _ _ ?k49 (fun hHeld49 => ?n49)
            case k49 => ((try dsimp only); first | (with_reducible refine HS.out _ ?_; with_reducible assumption) | (with_reducible refine HS.out _ (Kp.drew ?_); with_reducible assumption) | (with_reducible refine' HS.out _ (Kp.drew (And.right ?_)); rotate_left; with_reducible assumption))
            clear hK K
            (try simp only [Act.put, List.getElem_toArray, List.getElem_cons_zero, List.getElem_cons_succ, List.setIfInBounds_toArray, List.set_cons_zero, List.set_cons_succ])
            refine wpAnyH_take (i := 9) (v := ?v50) rfl (by kernel_rfl) (by kernel_rfl) (by kernel_rfl) (fun _ _ _ h => h) (Or.inl ⟨by rfl, ?y50⟩) (by assumption) ?r50
            case y50 => (intro w hSw; (try dsimp only at hSw); (try simp only [List.getElem_toArray, List.getElem_cons_zero, List.getElem_cons_succ]); go_simp; first | done | with_reducible rfl)
            (try simp only [Act.put, List.getElem_toArray, List.getElem_cons_zero, List.getElem_cons_succ, List.setIfInBounds_toArray, List.set_cons_zero, List.set_cons_succ])
            refine wpAnyH_take (i := 10) (v := ?v51) rfl (by kernel_rfl) (by kernel_rfl) (by kernel_rfl) (fun _ _ _ h => h) (Or.inl ⟨by rfl, ?y51⟩) (by assumption) ?r51
            case y51 => (intro w hSw; (try dsimp only at hSw); (try simp only [List.getElem_toArray, List.getElem_cons_zero, List.getElem_cons_succ]); go_simp; first | done | with_reducible rfl)
            (try simp only [Act.put, List.getElem_toArray, List.getElem_cons_zero, List.getElem_cons_succ, List.setIfInBounds_toArray, List.set_cons_zero, List.set_cons_succ])
            refine wpAnyH_take (i := 11) (v := ?v52) rfl (by kernel_rfl) (by kernel_rfl) (by kernel_rfl) (fun _ _ _ h => h) (Or.inl ⟨by rfl, ?y52⟩) (by assumption) ?r52
            case y52 => (intro w hSw; (try dsimp only at hSw); (try simp only [List.getElem_toArray, List.getElem_cons_zero, List.getElem_cons_succ]); go_simp; first | done | with_reducible rfl)
            (try simp only [Act.put, List.getElem_toArray, List.getElem_cons_zero, List.getElem_cons_succ, List.setIfInBounds_toArray, List.set_cons_zero, List.set_cons_succ])
            refine wpAnyH_take (i := 12) (v := ?v53) rfl (by kernel_rfl) (by kernel_rfl) (by kernel_rfl) (fun _ _ _ h => h) (Or.inl ⟨by rfl, ?y53⟩) (by assumption) ?r53
            case y53 => (intro w hSw; (try dsimp only at hSw); (try simp only [List.getElem_toArray, List.getElem_cons_zero, List.getElem_cons_succ]); go_simp; first | done | with_reducible rfl)
            (try simp only [Act.put, List.getElem_toArray, List.getElem_cons_zero, List.getElem_cons_succ, List.setIfInBounds_toArray, List.set_cons_zero, List.set_cons_succ])
            refine wpAnyH_take (i := 13) (v := ?v54) rfl (by kernel_rfl) (by kernel_rfl) (by kernel_rfl) (fun _ _ _ h => h) (Or.inl ⟨by rfl, ?y54⟩) (by assumption) ?r54
            case y54 => (intro w hSw; (try dsimp only at hSw); (try simp only [List.getElem_toArray, List.getElem_cons_zero, List.getElem_cons_succ]); go_simp; first | done | with_reducible rfl)
            (try simp only [Act.put, List.getElem_toArray, List.getElem_cons_zero, List.getElem_cons_succ, List.setIfInBounds_toArray, List.set_cons_zero, List.set_cons_succ])
            refine wpAnyH_take (i := 14) (v := ?v55) rfl (by kernel_rfl) (by kernel_rfl) (by kernel_rfl) (fun _ _ _ h => h) (Or.inl ⟨by rfl, ?y55⟩) (by assumption) ?r55
            case y55 => (intro w hSw; (try dsimp only at hSw); (try simp only [List.getElem_toArray, List.getElem_cons_zero, List.getElem_cons_succ]); go_simp; first | done | with_reducible rfl)
            (try simp only [Act.put, List.getElem_toArray, List.getElem_cons_zero, List.getElem_cons_succ, List.setIfInBounds_toArray, List.set_cons_zero, List.set_cons_succ])
            refine wpAnyH_take (i := 15) (v := ?v56) rfl (by kernel_rfl) (by kernel_rfl) (by kernel_rfl) (fun _ _ _ h => h) (Or.inl ⟨by rfl, ?y56⟩) (by assumption) ?r56
            case y56 => (intro w hSw; (try dsimp only at hSw); (try simp only [List.getElem_toArray, List.getElem_cons_zero, List.getElem_cons_succ]); go_simp; first | done | with_reducible rfl)
            (try simp only [Act.put, List.getElem_toArray, List.getElem_cons_zero, List.getElem_cons_succ, List.setIfInBounds_toArray, List.set_cons_zero, List.set_cons_succ])
            refine wpAnyH_take (i := 16) (v := ?v57) rfl (by kernel_rfl) (by kernel_rfl) (by kernel_rfl) (fun _ _ _ h => h) (Or.inl ⟨by rfl, ?y57⟩) (by assumption) ?r57
            case y57 => (intro w hSw; (try dsimp only at hSw); (try simp only [List.getElem_toArray, List.getElem_cons_zero, List.getElem_cons_succ]); go_simp; first | done | with_reducible rfl)
            (try simp only [Act.put, List.getElem_toArray, List.getElem_cons_zero, List.getElem_cons_succ, List.setIfInBounds_toArray, List.set_cons_zero, List.set_cons_succ])
            refine wpAnyH_take (i := 17) (v := ?v58) rfl (by kernel_rfl) (by kernel_rfl) (by kernel_rfl) (fun _ _ _ h => h) (Or.inl ⟨by rfl, ?y58⟩) (by assumption) ?r58
            case y58 => (intro w hSw; (try dsimp only at hSw); (try simp only [List.getElem_toArray, List.getElem_cons_zero, List.getElem_cons_succ]); go_simp; first | done | with_reducible rfl)
            (try simp only [Act.put, List.getElem_toArray, List.getElem_cons_zero, List.getElem_cons_succ, List.setIfInBounds_toArray, List.set_cons_zero, List.set_cons_succ])
            refine wpAnyH_take (i := 18) (v := ?v59) rfl (by kernel_rfl) (by kernel_rfl) (by kernel_rfl) (fun _ _ _ h => h) (Or.inl ⟨by rfl, ?y59⟩) (by assumption) ?r59
            case y59 => (intro w hSw; (try dsimp only at hSw); (try simp only [List.getElem_toArray, List.getElem_cons_zero, List.getElem_cons_succ]); go_simp; first | done | with_reducible rfl)
            (try simp only [Act.put, List.getElem_toArray, List.getElem_cons_zero, List.getElem_cons_succ, List.setIfInBounds_toArray, List.set_cons_zero, List.set_cons_succ])
            refine wpAnyH_take (i := 19) (v := ?v60) rfl (by kernel_rfl) (by kernel_rfl) (by kernel_rfl) (fun _ _ _ h => h) (Or.inl ⟨by rfl, ?y60⟩) (by assumption) ?r60
            case y60 => (intro w hSw; (try dsimp only at hSw); (try simp only [List.getElem_toArray, List.getElem_cons_zero, List.getElem_cons_succ]); go_simp; first | done | with_reducible rfl)
            (try simp only [Act.put, List.getElem_toArray, List.getElem_cons_zero, List.getElem_cons_succ, List.setIfInBounds_toArray, List.set_cons_zero, List.set_cons_succ])
            refine wpAnyH_take (i := 20) (v := ?v61) rfl (by kernel_rfl) (by kernel_rfl) (by kernel_rfl) (fun _ _ _ h => h) (Or.inl ⟨by rfl, ?y61⟩) (by assumption) ?r61
            case y61 => (intro w hSw; (try dsimp only at hSw); (try simp only [List.getElem_toArray, List.getElem_cons_zero, List.getElem_cons_succ]); go_simp; first | done | with_reducible rfl)
            (try simp only [Act.put, List.getElem_toArray, List.getElem_cons_zero, List.getElem_cons_succ, List.setIfInBounds_toArray, List.set_cons_zero, List.set_cons_succ])
            refine wpAnyH_take (i := 21) (v := ?v62) rfl (by kernel_rfl) (by kernel_rfl) (by kernel_rfl) (fun _ _ _ h => h) (Or.inl ⟨by rfl, ?y62⟩) (by assumption) ?r62
            case y62 => (intro w hSw; (try dsimp only at hSw); (try simp only [List.getElem_toArray, List.getElem_cons_zero, List.getElem_cons_succ]); go_simp; first | done | with_reducible rfl)
            (try simp only [Act.put, List.getElem_toArray, List.getElem_cons_zero, List.getElem_cons_succ, List.setIfInBounds_toArray, List.set_cons_zero, List.set_cons_succ])
            refine wpAnyH_take (i := 22) (v := ?v63) rfl (by kernel_rfl) (by kernel_rfl) (by kernel_rfl) (fun _ _ _ h => h) (Or.inl ⟨by rfl, ?y63⟩) (by assumption) ?r63
            case y63 => (intro w hSw; (try dsimp only at hSw); (try simp only [List.getElem_toArray, List.getElem_cons_zero, List.getElem_cons_succ]); go_simp; first | done | with_reducible rfl)
            (try simp only [Act.put, List.getElem_toArray, List.getElem_cons_zero, List.getElem_cons_succ, List.setIfInBounds_toArray, List.set_cons_zero, List.set_cons_succ])
            refine wpAnyH_ready (rs := [23]) (by kernel_rfl) (by simp) ?_
            refine AllReadyH.cons rfl (fun K hK => ?_) ?_
            · (try simp only [List.getElem_toArray, List.getElem_cons_zero, List.getElem_cons_succ])
              go_simp
              have hk := And.right ‹_ ∧ Kp wr _›
              refine (TR.out _ hk).mono ?_
              rintro e v2 ⟨A9, k9, c9, B9, j9, e9, rfl, hk9, hj9, hW9, hX9, -, -, hbx⟩
              have hp := Kp.trans hk hbx
              have r9 : RQ v2 rv A9 k9 c9 B9 j9 e9 := ⟨hk9, hj9, hW9, hX9⟩
              clear hk hbx hk9 hj9 hW9 hX9
              (try (go_wp2_with fail))
              refine hK.out _ _ ?k65 (fun hHeld65 => ?n65)
              case k65 => ((try dsimp only); first | (with_reducible refine HS.out _ ?_; with_reducible assumption) | (with_reducible refine HS.out _ (Kp.drew ?_); with_reducible assumption) | (with_reducible refine' HS.out _ (Kp.drew (And.right ?_)); rotate_left; with_reducible assumption))
              clear hK K
              (try simp only [Act.put, List.getElem_toArray, List.getElem_cons_zero, List.getElem_cons_succ, List.setIfInBounds_toArray, List.set_cons_zero, List.set_cons_succ])
              refine wpAnyH_ready (rs := [24]) (by kernel_rfl) (by simp) ?_
              refine AllReadyH.cons rfl (fun K hK => ?_) ?_
              · (try simp only [List.getElem_toArray, List.getElem_cons_zero, List.getElem_cons_succ])
                go_simp
                have hk := And.right ‹_ ∧ Kp wr _›
                refine (TG.out _ _ _ _ _ _ _ r9).mono ?_
                rintro e v3 ⟨rfl, hbx⟩
                have hp := Kp.trans hk hbx
                clear hk hbx r9
                (try (go_wp2_with fail))
                refine hK.out _ _ ?k67 (fun hHeld67 => ?n67)
                case k67 => ((try dsimp only); first | (with_reducible refine HS.out _ ?_; with_reducible assumption) | (with_reducible refine HS.out _ (Kp.drew ?_); with_reducible assumption) | (with_reducible refine' HS.out _ (Kp.drew (And.right ?_)); rotate_left; with_reducible assumption))
                clear hK K
                (try simp only [Act.put, List.getElem_toArray, List.getElem_cons_zero, List.getElem_cons_succ, List.setIfInBounds_toArray, List.set_cons_zero, List.set_cons_succ])
                refine wpAnyH_take (i := 25) (v := ?v68) rfl (by kernel_rfl) (by kernel_rfl) (by kernel_rfl) (fun _ _ _ h => h) (Or.inl ⟨by rfl, ?y68⟩) (by assumption) ?r68
                case y68 => (intro w hSw; (try dsimp only at hSw); (try simp only [List.getElem_toArray, List.getElem_cons_zero, List.getElem_cons_succ]); go_simp; first | done | with_reducible rfl)
                (try simp only [Act.put, List.getElem_toArray, List.getElem_cons_zero, List.getElem_cons_succ, List.setIfInBounds_toArray, List.set_cons_zero, List.set_cons_succ])
                refine wpAnyH_take (i := 26) (v := ?v69) rfl (by kernel_rfl) (by kernel_rfl) (by kernel_rfl) (fun _ _ _ h => h) (Or.inl ⟨by rfl, ?y69⟩) (by assumption) ?r69
                case y69 => (intro w hSw; (try dsimp only at hSw); (try simp only [List.getElem_toArray, List.getElem_cons_zero, List.getElem_cons_succ]); go_simp; first | done | with_reducible rfl)
                (try simp only [Act.put, List.getElem_toArray, List.getElem_cons_zero, List.getElem_cons_succ, List.setIfInBounds_toArray, List.set_cons_zero, List.set_cons_succ])
                refine wpAnyH_take (i := 27) (v := undef) rfl (by kernel_rfl) (by kernel_rfl) (by kernel_rfl) (fun _ _ _ h => h) (Or.inr ⟨by rfl, rfl⟩) (by assumption) ?_
                (try simp only [Act.put, List.getElem_toArray, List.getElem_cons_zero, List.getElem_cons_succ, List.setIfInBounds_toArray, List.set_cons_zero, List.set_cons_succ])
                refine wpAnyH_take (i := 28) (v := undef) rfl (by kernel_rfl) (by kernel_rfl) (by kernel_rfl) (fun _ _ _ h => h) (Or.inr ⟨by rfl, rfl⟩) (by assumption) ?_
                (try simp only [Act.put, List.getElem_toArray, List.getElem_cons_zero, List.getElem_cons_succ, List.setIfInBounds_toArray, List.set_cons_zero, List.set_cons_succ])
                refine wpAnyH_take (i := 29) (v := undef) rfl (by kernel_rfl) (by kernel_rfl) (by kernel_rfl) (fun _ _ _ h => h) (Or.inr ⟨by rfl, rfl⟩) (by assumption) ?_
                (try simp only [Act.put, List.getElem_toArray, List.getElem_cons_zero, List.getElem_cons_succ, List.setIfInBounds_toArray, List.set_cons_zero, List.set_cons_succ])
                refine wpAnyH_take (i := 30) (v := undef) rfl (by kernel_rfl) (by kernel_rfl) (by kernel_rfl) (fun _ _ _ h => h) (Or.inr ⟨by rfl, rfl⟩) (by assumption) ?_
                (try simp only [Act.put, List.getElem_toArray, List.getElem_cons_zero, List.getElem_cons_succ, List.setIfInBounds_toArray, List.set_cons_zero, List.set_cons_succ])
                refine wpAnyH_take (i := 31) (v := undef) rfl (by kernel_rfl) (by kernel_rfl) (by kernel_rfl) (fun _ _ _ h => h) (Or.inr ⟨by rfl, rfl⟩) (by assumption) ?_
                (try simp only [Act.put, List.getElem_toArray, List.getElem_cons_zero, List.getElem_cons_succ, List.setIfInBounds_toArray, List.set_cons_zero, List.set_cons_succ])
                refine wpAnyH_take (i := 32) (v := undef) rfl (by kernel_rfl) (by kernel_rfl) (by kernel_rfl) (fun _ _ _ h => h) (Or.inr ⟨by rfl, rfl⟩) (by assumption) ?_
                (try simp only [Act.put, List.getElem_toArray, List.getElem_cons_zero, List.getElem_cons_succ, List.setIfInBounds_toArray, List.set_cons_zero, List.set_cons_succ])
                refine wpAnyH_take (i := 33) (v := ?v76) rfl (by kernel_rfl) (by kernel_rfl) (by kernel_rfl) (fun _ _ _ h => h) (Or.inl ⟨by rfl, ?y76⟩) (by assumption) ?r76
                case y76 => (intro w hSw; (try dsimp only at hSw); (try simp only [List.getElem_toArray, List.getElem_cons_zero, List.getElem_cons_succ]); go_simp; first | done | with_reducible rfl)
                (try simp only [Act.put, List.getElem_toArray, List.getElem_cons_zero, List.getElem_cons_succ, List.setIfInBounds_toArray, List.set_cons_zero, List.set_cons_succ])
                refine wpAnyH_take (i := 34) (v := ?v77) rfl (by kernel_rfl) (by kernel_rfl) (by kernel_rfl) (fun _ _ _ h => h) (Or.inl ⟨by rfl, ?y77⟩) (by assumption) ?r77
                case y77 => (intro w hSw; (try dsimp only at hSw); (try simp only [List.getElem_toArray, List.getElem_cons_zero, List.getElem_cons_succ]); go_simp; first | done | with_reducible rfl)
                (try simp only [Act.put, List.getElem_toArray, List.getElem_cons_zero, List.getElem_cons_succ, List.setIfInBounds_toArray, List.set_cons_zero, List.set_cons_succ])
                refine wpAnyH_done (by kernel_rfl) ?_ _
                have HF := Lib.hid (Kp.trans HKW.out hp)
                clear hp
                go_wp2
                go_roundw
                case rel => exact ⟨i + 1, by omega, by first | rfl | go_num, HF.out⟩
                case measure => simp [intOf]; omega
              exact AllReadyH.nil
            exact AllReadyH.nil
          exact AllReadyH.nil
      · obtain rfl : i = n := by omega
        have HF := Lib.hid (HBV2.out.trans (Below.mono hK.out HBV2.out.size))
        clear hK
        go_wp2
        go_ret
        exact ⟨rfl, HF.out⟩
  · rw [hsame]
    generalize rchk us bs qs need = x at *
    have e1 : (x != 0) = true := by simpa using hr
    have e3 : (x == x) = true := by simp
    clear hsame hr hn0 H2 H3
    go_wp2
    go_ret
    exact ⟨rfl, HBV.out⟩

end Go.Proofs.YtodkhjihkkmplaaGreat
