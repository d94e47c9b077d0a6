/-
ReserveAdditivity: its walk. No statement of the seat is proved here; no conditions beyond those of each theorem.
-/
import Derived.Test.YtodkhjihkkmplaaGreatLQC
import Derived.Test.YtodkhjihkkmplaaGreatLRt7
import Derived.Test.YtodkhjihkkmplaaGreatLQD
import Derived.Test.YtodkhjihkkmplaaGreatLRu2
import Derived.Test.YtodkhjihkkmplaaGreatLQA
namespace Go.Proofs.YtodkhjihkkmplaaGreat
set_option linter.unusedVariables false
set_option linter.unusedSimpArgs false
open Go.RowKit
open Wd
set_option maxRecDepth 100000 in
set_option maxHeartbeats 4000000 in
theorem addv30_any (A B C : Option Addr) (n c m d p pc : Nat) (us : List Un) (bs : List Bool) (es : List QE) (a b : Nat) (w : World) (h : UsRaw w A n us) (h' : BsAt w B m bs) (hg : QsAtR w C p es) (hgs : es.any bigQ = false → ∃ qs, GsAt 0 w C p qs) (ha : a < 65536) (hb16 : b < 65536) :
    Calls Tryz.prog 9 #[.slice A n c, .slice B m d, .slice C p pc, .int .u16 (a : Int), .int .u16 (b : Int)] w fun e w' => e = .returned (.bool true) ∧ Below w.heap.size w w' := by
  have TL := Lib.hid (long30_any A B C n c m d p pc us bs es w h h'.1 hg)
  by_cases hL : long30B us m es = true
  · rw [hL] at TL
    clear h h' hg hgs hL
    go_enter Tryz.func9, Tryz.ntmps9
    go_wp2_with fail
    refine TL.out.mono ?_
    rintro e w1 ⟨rfl, hb1⟩
    have HB1 := Lib.hid hb1
    clear hb1 TL
    go_wp2_with fail
    refine (awake30_any _).mono ?_
    rintro e w2 ⟨rfl, hb2⟩
    have HF := Lib.hid (HB1.out.trans (hb2.mono HB1.out.size))
    clear hb2
    go_wp2
    go_ret
    exact ⟨rfl, HF.out⟩
  have hL : long30B us m es = false := by simpa using hL
  rw [hL] at TL
  obtain ⟨l1, l2, l3⟩ := long30_no hL
  obtain ⟨hu, hn30, hm30⟩ := h.at l1
  obtain ⟨qs, hq⟩ := hgs l3
  have hpl : p ≤ 30 := by have := hg.1; omega
  have hl := hu.1
  obtain ⟨sm, hsm⟩ : ∃ sm : Nat, sm = a + b := ⟨_, rfl⟩
  have HVV := Lib.hid (And.intro (w_of (z := (a : Int)) (k := a) rfl (by omega)) (And.intro (w_of (z := (b : Int)) (k := b) rfl (by omega)) (w_of (z := (a : Int) + (b : Int)) (k := sm) (by omega) (by omega))))
  have HAB := Lib.hid (And.intro ha (And.intro hb16 hsm))
  have TF := Lib.hid (fun (z : Int) (W : World) (hW : Below w.heap.size w W) => fill_all A B C n c m d p pc us bs qs z W (hu.below hW) (h'.below hW) (hq.below hW) (by omega) (by omega) (by omega))
  have HU := Lib.hid hu
  have HBS := Lib.hid h'
  have HQ := Lib.hid hq
  have HLN := Lib.hid hl
  clear h h' hg hgs hL l1 l2 l3 hu hq hl ha hb16 hsm
  obtain ⟨⟨v1, v2⟩, ⟨v3, v4⟩, v5, v6⟩ := HVV.out
  clear HVV
  go_enter Tryz.func9, Tryz.ntmps9
  go_wp2_with fail
  refine TL.out.mono ?_
  rintro e w0 ⟨rfl, hb0⟩
  have HB0 := Lib.hid hb0
  clear hb0 TL
  go_wp2_with fail
  refine (awake30_any _).mono ?_
  rintro e w1 ⟨rfl, hb1⟩
  have hB1 := HB0.out.trans (hb1.mono HB0.out.size)
  have T1 := Lib.hid (TF.out ((sm : Nat) : Int) w1 hB1)
  have HB1 := Lib.hid hB1
  clear hb1 hB1
  go_wp2_with fail
  refine T1.out.mono ?_
  rintro e w2 ⟨TA1, tn1, tc1, pr1, s1, F1, f1, g1, G1, i1, j1, rfl, hb2, hno1, hok1⟩
  have hx2 : Below w2.heap.size w2 (w2.alloc (.cells #[.bool s1, .slice F1 f1 g1, .bool false, .slice G1 i1 j1] 31)) := (Below.refl _ _).alloc (Nat.le_refl _) _
  have hN2 := Blk.new w2 31 #[.bool s1, .slice F1 f1 g1, .bool false, .slice G1 i1 j1]
  have H2 := Lib.hid (And.intro (HB1.out.trans ((hb2.trans (hx2.mono hb2.size)).mono HB1.out.size)) (And.intro hx2 (And.intro hN2 (And.intro hno1 hok1))))
  have T2 := Lib.hid (TF.out ((a : Nat) : Int) (w2.alloc (.cells #[.bool s1, .slice F1 f1 g1, .bool false, .slice G1 i1 j1] 31)) H2.out.1)
  clear T1 TF hb2 hx2 hN2 hno1 hok1
  go_wp2_with fail
  generalize w2.alloc (.cells #[.bool s1, .slice F1 f1 g1, .bool false, .slice G1 i1 j1] 31) = V2 at *
  refine T2.out.mono ?_
  rintro e w3 ⟨TA2, tn2, tc2, pr2, s2, F2, f2, g2, G2, i2, j2, rfl, hb3, hno2, hok2⟩
  have hx3 : Below w3.heap.size w3 (w3.alloc (.cells #[.bool s2, .slice F2 f2 g2, .bool false, .slice G2 i2 j2] 31)) := (Below.refl _ _).alloc (Nat.le_refl _) _
  have hN3 := Blk.new w3 31 #[.bool s2, .slice F2 f2 g2, .bool false, .slice G2 i2 j2]
  have H3 := Lib.hid (And.intro (hb3.trans (hx3.mono hb3.size)) (And.intro hx3 (And.intro hN3 (And.intro hno2 hok2))))
  have HBV := Lib.hid (H2.out.1.trans (H3.out.1.mono H2.out.1.size))
  clear T2 hb3 hx3 hN3 hno2 hok2
  clear v1 v2 v3 v4 v5 v6
  have hsame : rchk us bs qs ((a : Nat) : Int) = rchk us bs qs ((sm : Nat) : Int) := rchk_same (by omega) (by have := HAB.out; omega) (by omega) (by have := HAB.out; omega)
  rw [hsame]
  by_cases hr : rchk us bs qs ((sm : Nat) : Int) = 0
  · have hra := hsame.trans hr
    obtain ⟨ord, g1', ho1, rfl, rfl, rfl, rfl, rfl, hR1, hQ1, hga, hl1, hl1'⟩ := H2.out.2.2.2.2 hr
    obtain ⟨ord2, gb, ho2, rfl, rfl, rfl, rfl, rfl, hR2, hQ2, hgb, hl2, hl2'⟩ := H3.out.2.2.2.2 hra
    have hn5 : n ≤ 5 := by have g1 := (echk_ok (rchk_ok hr).1).1; have g3 := HLN.out; omega
    have hpn : p = n := by have g1 := (rchk_ok hr).2.1; have g2 := HQ.out.1; have g3 := HLN.out; omega
    have hmn : m = n := by have g1 := (echk_ok (rchk_ok hr).1).2.1; have g2 := HBS.out.1; have g3 := HLN.out; omega
    have HPM := Lib.hid (And.intro hpn (And.intro hmn hn5))
    obtain ⟨ms, hms⟩ : ∃ ms : List Rat, ms = (List.range n).map fun i => qs[i]?.getD 0 + Rv.gt (fillV us bs qs ((a : Nat) : Int) ord2).tk i := ⟨_, rfl⟩
    have hml : ms.length = n := by rw [hms]; simp
    have hmg : ∀ i, i < n → ms[i]?.getD 0 = qs[i]?.getD 0 + Rv.gt (fillV us bs qs ((a : Nat) : Int) ord2).tk i := fun i hi => by rw [hms]; simp [hi]
    have HADD := Lib.hid (fun (o3 : List Nat) => add30 (a := ((a : Nat) : Int)) (b := ((b : Nat) : Int)) (ms := ms) (o1 := ord2) (o2 := ord) (o3 := o3) hra (by omega) (by have := HAB.out; omega) (by rw [HLN.out]; exact hml) (by rw [HLN.out]; exact ho2) (fun i hi => hmg i (by rw [← HLN.out]; exact hi)))
    rw [hr]
    have hk3 := H3.out.1
    have hB17 := H3.out.2.2.1
    have hB13 := H2.out.2.2.1.below hk3 H2.out.2.2.1.lt
    have hQ1 := (hQ1.below H2.out.2.1).below hk3
    have hR1 := (hR1.below H2.out.2.1).below hk3
    have hQ2 := hQ2.below H3.out.2.1
    have hR2 := hR2.below H3.out.2.1
    have HO := Lib.hid (And.intro ho1 ho2)
    generalize he1 : fillV us bs qs ((sm : Nat) : Int) ord = sA at *
    generalize he2 : fillV us bs qs ((a : Nat) : Int) ord2 = sF at *
    obtain ⟨t1, r1, p1⟩ := sA
    obtain ⟨t2, r2, p2⟩ := sF
    simp only at hQ1 hR1 hQ2 hR2 hl1 hl1' hl2 hl2' hmg hms HADD ⊢
    have HE := Lib.hid (And.intro he1 he2)
    have HX := Lib.hid (And.intro hR1 (And.intro hR2 (And.intro hQ1 (And.intro hQ2 (And.intro hl1 (And.intro hl1' (And.intro hl2 hl2')))))))
    have HB := Lib.hid (And.intro hB13 hB17)
    have HMS := Lib.hid (And.intro hml hmg)
    have z0 : ((n : Int) != (n : Int)) = false := by simp
    have z1 : ((0 : Int) != 0) = false := by decide
    have HHU := Lib.hid (HU.out.below HBV.out)
    have HHB := Lib.hid (HBS.out.below HBV.out)
    have HHQ := Lib.hid (HQ.out.below HBV.out)
    clear hsame hr hra H2 H3 ho1 ho2 hk3 hB17 hB13 hQ1 hR1 hQ2 hR2 hga hgb hl1 hl1' hl2 hl2' hn5 hpn hmn hms hml hmg he1 he2 HU HBS HQ
    go_wp2_with fail
    generalize w3.alloc (.cells #[.bool (decide (r2.num < 0)), .slice F2 f2 g2, .bool false, .slice G2 i2 j2] 31) = V at *
    obtain ⟨ii, hii, hz0, hz1, hz2⟩ := info_parts info_q
    have HI := Lib.hid hii
    have HZ0 := Lib.hid hz0
    have HZ1 := Lib.hid hz1
    have HZ2 := Lib.hid hz2
    clear hii hz0 hz1 hz2
    go_loopw [19, 20] (fun th t wr => ∃ (i : Nat) (Ah : Option Addr) (ch : Nat) (es : List QEnt), i ≤ n ∧ t = .int .i64 (i : Int) ∧ th = .slice Ah i ch ∧ Hid (Kp V wr ∧ Own V.heap.size 31 4 wr Ah i ch (qCells es) ∧ QEnts Ah ms wr i es)) (fun _ t _ => n - (intOf t).toNat)
    case atStart => exact ⟨0, none, 0, [], Nat.zero_le _, rfl, rfl, Kp.refl _, Own.nil _ _ _ _, QEnts.start⟩
    case round =>
      obtain ⟨i, Ah, ch, es, hi, rfl, rfl, HR⟩ := hrel
      by_cases hlt : i < n
      · have hip : i < p := by have := HPM.out; omega
        obtain ⟨b2, o2, rfl, hbr2, hcell2⟩ := HHQ.out.2 (by omega)
        obtain ⟨an, aA, ak, ac, an', aA', ak', ac', z1, z2, z3, z4, hq⟩ := hcell2 i hip
        obtain ⟨A7, k7, c7, A8, k8, c8, y0, y1, y2, y3, -, -, -, -, hk7, hk8, hW7, hW8⟩ := HX.out.2.1.cells hlt
        have hgb : gb < V.heap.size := by obtain ⟨_, _, hx, _⟩ := HX.out.2.1; exact hx.lt
        have hlb := HX.out.2.2.2.2.2.2.1 i hlt
        have hmi := HMS.out.2 i hlt
        unfold Rv.gt at hmi
        generalize qs[i]?.getD 0 = q at *
        generalize t2[i]?.getD 0 = tb at *
        have TADD := Lib.hid (fun (W : World) (hW : Kp V W) => add_k (k := 6) (by omega) ((hq.below hW).mono (show 0 ≤ 6 by omega)) (RQ.qk (RQ.below ⟨hk7, hk8, hW7, hW8⟩ hW) hlb (by omega)))
        generalize hyq : q + tb = yq at *
        have HMI := Lib.hid hmi
        have HS := Lib.hid (show ∀ w', Kp V w' → (w'.cell? ⟨b2, o2 + i * 4, none⟩ = some (.bool an) ∧ w'.cell? ⟨b2, o2 + i * 4 + 1, none⟩ = some (.slice aA ak ac) ∧ w'.cell? ⟨b2, o2 + i * 4 + 2, none⟩ = some (.bool an') ∧ w'.cell? ⟨b2, o2 + i * 4 + 3, none⟩ = some (.slice aA' ak' ac') ∧ w'.cell? ⟨gb, i * 4, none⟩ = some (.bool (decide (tb.num < 0))) ∧ w'.cell? ⟨gb, i * 4 + 1, none⟩ = some (.slice A7 k7 c7) ∧ w'.cell? ⟨gb, i * 4 + 2, none⟩ = some (.bool false) ∧ w'.cell? ⟨gb, i * 4 + 3, none⟩ = some (.slice A8 k8 c8)) ∧ Kp V w' from fun w' hk => ⟨⟨(Below.cell hk (p := ⟨b2, _, none⟩) hbr2).trans z1, (Below.cell hk (p := ⟨b2, _, none⟩) hbr2).trans z2, (Below.cell hk (p := ⟨b2, _, none⟩) hbr2).trans z3, (Below.cell hk (p := ⟨b2, _, none⟩) hbr2).trans z4, (Below.cell hk (p := ⟨gb, _, none⟩) hgb).trans y0, (Below.cell hk (p := ⟨gb, _, none⟩) hgb).trans y1, (Below.cell hk (p := ⟨gb, _, none⟩) hgb).trans y2, (Below.cell hk (p := ⟨gb, _, none⟩) hgb).trans y3⟩, hk⟩)
        have hk0 := HR.out.1
        have hki1 : (0 : Int) ≤ (i : Int) := by omega
        have hki2 : (i : Int) < (n : Int) := by omega
        have hki4 : (i : Int) < (p : Int) := by omega
        clear hcell2 hq hk7 hk8 hW7 hW8 hlb hmi hyq z1 z2 z3 z4 y0 y1 y2 y3 hgb hbr2
        go_wp2_with fail
        refine wp_region_held_drew (S := fun w' => (w'.cell? ⟨b2, o2 + i * 4, none⟩ = some (.bool an) ∧ w'.cell? ⟨b2, o2 + i * 4 + 1, none⟩ = some (.slice aA ak ac) ∧ w'.cell? ⟨b2, o2 + i * 4 + 2, none⟩ = some (.bool an') ∧ w'.cell? ⟨b2, o2 + i * 4 + 3, none⟩ = some (.slice aA' ak' ac') ∧ w'.cell? ⟨gb, i * 4, none⟩ = some (.bool (decide (tb.num < 0))) ∧ w'.cell? ⟨gb, i * 4 + 1, none⟩ = some (.slice A7 k7 c7) ∧ w'.cell? ⟨gb, i * 4 + 2, none⟩ = some (.bool false) ∧ w'.cell? ⟨gb, i * 4 + 3, none⟩ = some (.slice A8 k8 c8)) ∧ Kp V w') (by kernel_rfl) (HS.out _ (Kp.drew hk0)) (fun hHeld => ?_)
        refine wpAnyH_take (i := 0) (v := ?v18) rfl (by kernel_rfl) (by kernel_rfl) (by kernel_rfl) (fun _ _ _ h => h) (Or.inl ⟨by rfl, ?y18⟩) (by assumption) ?r18
        case y18 => (intro w hSw; (try dsimp only at hSw); (try simp only [List.getElem_toArray, List.getElem_cons_zero, List.getElem_cons_succ]); go_simp; first | done | with_reducible rfl)
        (try simp only [Act.put, List.getElem_toArray, List.getElem_cons_zero, List.getElem_cons_succ, List.setIfInBounds_toArray, List.set_cons_zero, List.set_cons_succ])
        refine wpAnyH_take (i := 1) (v := ?v19) rfl (by kernel_rfl) (by kernel_rfl) (by kernel_rfl) (fun _ _ _ h => h) (Or.inl ⟨by rfl, ?y19⟩) (by assumption) ?r19
        case y19 => (intro w hSw; (try dsimp only at hSw); (try simp only [List.getElem_toArray, List.getElem_cons_zero, List.getElem_cons_succ]); go_simp; first | done | with_reducible rfl)
        (try simp only [Act.put, List.getElem_toArray, List.getElem_cons_zero, List.getElem_cons_succ, List.setIfInBounds_toArray, List.set_cons_zero, List.set_cons_succ])
        refine wpAnyH_take (i := 2) (v := ?v20) rfl (by kernel_rfl) (by kernel_rfl) (by kernel_rfl) (fun _ _ _ h => h) (Or.inl ⟨by rfl, ?y20⟩) (by assumption) ?r20
        case y20 => (intro w hSw; (try dsimp only at hSw); (try simp only [List.getElem_toArray, List.getElem_cons_zero, List.getElem_cons_succ]); go_simp; first | done | with_reducible rfl)
        (try simp only [Act.put, List.getElem_toArray, List.getElem_cons_zero, List.getElem_cons_succ, List.setIfInBounds_toArray, List.set_cons_zero, List.set_cons_succ])
        refine wpAnyH_take (i := 3) (v := ?v21) rfl (by kernel_rfl) (by kernel_rfl) (by kernel_rfl) (fun _ _ _ h => h) (Or.inl ⟨by rfl, ?y21⟩) (by assumption) ?r21
        case y21 => (intro w hSw; (try dsimp only at hSw); (try simp only [List.getElem_toArray, List.getElem_cons_zero, List.getElem_cons_succ]); go_simp; first | done | with_reducible rfl)
        (try simp only [Act.put, List.getElem_toArray, List.getElem_cons_zero, List.getElem_cons_succ, List.setIfInBounds_toArray, List.set_cons_zero, List.set_cons_succ])
        refine wpAnyH_take (i := 4) (v := ?v22) rfl (by kernel_rfl) (by kernel_rfl) (by kernel_rfl) (fun _ _ _ h => h) (Or.inl ⟨by rfl, ?y22⟩) (by assumption) ?r22
        case y22 => (intro w hSw; (try dsimp only at hSw); (try simp only [List.getElem_toArray, List.getElem_cons_zero, List.getElem_cons_succ]); go_simp; first | done | with_reducible rfl)
        (try simp only [Act.put, List.getElem_toArray, List.getElem_cons_zero, List.getElem_cons_succ, List.setIfInBounds_toArray, List.set_cons_zero, List.set_cons_succ])
        refine wpAnyH_take (i := 5) (v := ?v23) rfl (by kernel_rfl) (by kernel_rfl) (by kernel_rfl) (fun _ _ _ h => h) (Or.inl ⟨by rfl, ?y23⟩) (by assumption) ?r23
        case y23 => (intro w hSw; (try dsimp only at hSw); (try simp only [List.getElem_toArray, List.getElem_cons_zero, List.getElem_cons_succ]); go_simp; first | done | with_reducible rfl)
        (try simp only [Act.put, List.getElem_toArray, List.getElem_cons_zero, List.getElem_cons_succ, List.setIfInBounds_toArray, List.set_cons_zero, List.set_cons_succ])
        refine wpAnyH_take (i := 6) (v := ?v24) rfl (by kernel_rfl) (by kernel_rfl) (by kernel_rfl) (fun _ _ _ h => h) (Or.inl ⟨by rfl, ?y24⟩) (by assumption) ?r24
        case y24 => (intro w hSw; (try dsimp only at hSw); (try simp only [List.getElem_toArray, List.getElem_cons_zero, List.getElem_cons_succ]); go_simp; first | done | with_reducible rfl)
        (try simp only [Act.put, List.getElem_toArray, List.getElem_cons_zero, List.getElem_cons_succ, List.setIfInBounds_toArray, List.set_cons_zero, List.set_cons_succ])
        refine wpAnyH_take (i := 7) (v := ?v25) rfl (by kernel_rfl) (by kernel_rfl) (by kernel_rfl) (fun _ _ _ h => h) (Or.inl ⟨by rfl, ?y25⟩) (by assumption) ?r25
        case y25 => (intro w hSw; (try dsimp only at hSw); (try simp only [List.getElem_toArray, List.getElem_cons_zero, List.getElem_cons_succ]); go_simp; first | done | with_reducible rfl)
        (try simp only [Act.put, List.getElem_toArray, List.getElem_cons_zero, List.getElem_cons_succ, List.setIfInBounds_toArray, List.set_cons_zero, List.set_cons_succ])
        refine wpAnyH_take (i := 8) (v := ?v26) rfl (by kernel_rfl) (by kernel_rfl) (by kernel_rfl) (fun _ _ _ h => h) (Or.inl ⟨by rfl, ?y26⟩) (by assumption) ?r26
        case y26 => (intro w hSw; (try dsimp only at hSw); (try simp only [List.getElem_toArray, List.getElem_cons_zero, List.getElem_cons_succ]); go_simp; first | done | with_reducible rfl)
        (try simp only [Act.put, List.getElem_toArray, List.getElem_cons_zero, List.getElem_cons_succ, List.setIfInBounds_toArray, List.set_cons_zero, List.set_cons_succ])
        refine wpAnyH_ready (rs := [9]) (by kernel_rfl) (by simp) ?_
        refine AllReadyH.cons rfl (fun K hK => ?_) ?_
        · (try simp only [List.getElem_toArray, List.getElem_cons_zero, List.getElem_cons_succ])
          go_simp
          have hk := And.right ‹_ ∧ Kp V _›
          refine (TADD.out _ hk).mono ?_
          rintro e v1 ⟨A1, k1, c1, A2, k2, c2, rfl, hk1, hk2, hW1, hW2, hF1, hF2, hbx⟩
          have hp := Kp.trans hk hbx
          have HW := Lib.hid (And.intro (show RQ v1 yq A1 k1 c1 A2 k2 c2 from ⟨hk1, hk2, hW1, hW2⟩) (And.intro hF1 hF2))
          have HB1 := Lib.hid (show Below wr.heap.size wr v1 from Below.trans (Below.drew (Below.refl wr.heap.size wr)) hbx)
          clear hk hbx hk1 hk2 hW1 hW2 hF1 hF2
          (try (go_wp2_with fail))
          refine hK.out _ _ ?k28 (fun hHeld28 => ?n28)
          case k28 => ((try dsimp only); first | (with_reducible refine HS.out _ ?_; with_reducible assumption) | (with_reducible refine HS.out _ (Kp.drew ?_); with_reducible assumption) | (with_reducible refine' HS.out _ (Kp.drew (And.right ?_)); rotate_left; with_reducible assumption) | (with_reducible refine' HS.out _ (Kp.alloc (And.right ?_) _); rotate_left; with_reducible assumption))
          clear hK K
          (try simp only [Act.put, List.getElem_toArray, List.getElem_cons_zero, List.getElem_cons_succ, List.setIfInBounds_toArray, List.set_cons_zero, List.set_cons_succ])
          refine wpAnyH_ready (rs := [10]) (by kernel_rfl) (by simp) ?_
          refine AllReadyH.cons rfl (fun K hK => ?_) ?_
          · (try simp only [List.getElem_toArray, List.getElem_cons_zero, List.getElem_cons_succ])
            go_simp
            refine hK.out _ _ ?k30 (fun hHeld30 => ?n30)
            case k30 => ((try dsimp only); first | (with_reducible refine HS.out _ ?_; with_reducible assumption) | (with_reducible refine HS.out _ (Kp.drew ?_); with_reducible assumption) | (with_reducible refine' HS.out _ (Kp.drew (And.right ?_)); rotate_left; with_reducible assumption) | (with_reducible refine' HS.out _ (Kp.alloc (And.right ?_) _); rotate_left; with_reducible assumption))
            clear hK K
            (try simp only [Act.put, List.getElem_toArray, List.getElem_cons_zero, List.getElem_cons_succ, List.setIfInBounds_toArray, List.set_cons_zero, List.set_cons_succ])
            refine wpAnyH_ready (rs := [11]) (by kernel_rfl) (by simp) ?_
            refine AllReadyH.cons rfl (fun K hK => ?_) ?_
            · have hO1 := (HR.out.2.1.keep HB1.out).keep ((Kp.refl v1).alloc (.cells #[.bool (decide (yq.num < 0)), .slice A1 k1 c1, .bool false, .slice A2 k2 c2] 31))
              have m1 := Blk.new v1 31 #[.bool (decide (yq.num < 0)), .slice A1 k1 c1, .bool false, .slice A2 k2 c2]
              have s1 : Kp V (v1.alloc (.cells #[.bool (decide (yq.num < 0)), .slice A1 k1 c1, .bool false, .slice A2 k2 c2] 31)) := Kp.alloc hp _
              refine step_append_at (by rfl) (base := V.heap.size) (e := 31) (size := 4) (bytes := 64) (.tmp 83) (.tmp 93) 24 rfl Tryz.underlying24 HI.out HZ0.out HZ1.out HZ2.out rfl (by decide) (xs := qCells es) (news := [.bool (decide (yq.num < 0)), .slice A1 k1 c1, .bool false, .slice A2 k2 c2]) rfl (by exact hO1) rfl (by exact Blk.src m1 rfl (qCells_one [(decide (yq.num < 0), (A1, k1, c1), (A2, k2, c2))])) (by simp only [maxLen]; have := HPM.out; omega) (by have := HPM.out; omega) (by exact Below.size s1) ?_
              intro B2 cb2 w2' hO2 hb2 hk2 hs2
              have hp2 : Kp V w2' := Below.trans s1 hb2
              have HP := Lib.hid (And.intro hO2 (And.intro hb2 (And.intro hk2 (And.intro hs2 hp2))))
              clear hO2 hb2 hk2 hs2
              refine hK.out _ _ ?k32 (fun hHeld32 => ?n32)
              case k32 => ((try dsimp only); first | (with_reducible refine HS.out _ ?_; with_reducible assumption) | (with_reducible refine HS.out _ (Kp.drew ?_); with_reducible assumption) | (with_reducible refine' HS.out _ (Kp.drew (And.right ?_)); rotate_left; with_reducible assumption) | (with_reducible refine' HS.out _ (Kp.alloc (And.right ?_) _); rotate_left; with_reducible assumption))
              clear hK K
              (try simp only [Act.put, List.getElem_toArray, List.getElem_cons_zero, List.getElem_cons_succ, List.setIfInBounds_toArray, List.set_cons_zero, List.set_cons_succ])
              refine wpAnyH_take (i := 12) (v := ?v33) rfl (by kernel_rfl) (by kernel_rfl) (by kernel_rfl) (fun _ _ _ h => h) (Or.inl ⟨by rfl, ?y33⟩) (by assumption) ?r33
              case y33 => (intro w hSw; (try dsimp only at hSw); (try simp only [List.getElem_toArray, List.getElem_cons_zero, List.getElem_cons_succ]); go_simp; first | done | with_reducible rfl)
              (try simp only [Act.put, List.getElem_toArray, List.getElem_cons_zero, List.getElem_cons_succ, List.setIfInBounds_toArray, List.set_cons_zero, List.set_cons_succ])
              refine wpAnyH_done (by kernel_rfl) ?_ _
              have hfin : Kp V w2' ∧ Own V.heap.size 31 4 w2' B2 (i + 1) cb2 (qCells (es ++ [(decide (yq.num < 0), (A1, k1, c1), (A2, k2, c2))])) ∧ QEnts B2 ms w2' (i + 1) (es ++ [(decide (yq.num < 0), (A1, k1, c1), (A2, k2, c2))]) := by
                obtain ⟨hO2, hb2, hk2, hs2, hp3⟩ := HP.out
                refine ⟨hp3, by rw [qCells_append]; exact hO2, ?_⟩
                have hlt2 := HR.out.2.1.blk_lt
                have he1 := (HR.out.2.2.below HB1.out).snoc (by rw [HMI.out]) (by rw [HMI.out]; exact HW.out.1) (Off.fresh HW.out.2.1 hlt2) (Off.fresh HW.out.2.2 hlt2)
                exact (he1.below ((Kp.refl v1).alloc _)).app hk2 hs2
              have HF := Lib.hid hfin
              clear hfin HP
              go_wp2
              go_roundw
              case rel => exact ⟨i + 1, B2, cb2, _, by omega, by first | rfl | go_num, rfl, HF.out⟩
              case measure => simp [intOf]; omega
            exact AllReadyH.nil
          exact AllReadyH.nil
        exact AllReadyH.nil
      · obtain rfl : i = n := by omega
        obtain ⟨hK, hO, hE⟩ := HR.out
        have hmq := hO.qs HMS.out.1 hE
        have hlm : ∀ j, j < i → Lv 7 (ms[j]?.getD 0) := fun j hj => by
          rw [HMS.out.2 j hj]
          obtain ⟨_, _, _, hcell2⟩ := HHQ.out.2 (by have := HPM.out; omega)
          obtain ⟨_, hc⟩ := hcell2
          obtain ⟨_, _, _, _, _, _, _, _, _, _, _, _, hq⟩ := hc j (by have := HPM.out; omega)
          exact (hq.lv.mono (show 0 ≤ 6 by omega)).add (HX.out.2.2.2.2.2.2.1 j hj)
        have T3 := Lib.hid (fill_ok 7 (by omega) A B Ah i c m d i ch us bs ms ((b : Nat) : Int) wr (HHU.out.below hK) (HHB.out.below hK) (hmq.gs hlm (by omega)) (by omega) (by omega) (by omega) (HADD.out []).1)
        have HKV := Lib.hid hK
        obtain ⟨u1, u2⟩ := w_of (z := (b : Int)) (k := b) rfl (by have := HAB.out; omega)
        clear hK hO hE hmq hlm HR
        go_wp2_with fail
        refine T3.out.mono ?_
        rintro e w5 ⟨ord3, g5, F3, f3, g3, G3, i3, j3, hord3, rfl, hR3, hQ3, hg5, hl3, hl3', hb5⟩
        have hlaw := (HADD.out ord3).2 (by rw [HLN.out]; exact HO.out.1) (by rw [HLN.out]; exact hord3)
        rw [show ((a : Nat) : Int) + ((b : Nat) : Int) = ((sm : Nat) : Int) by have := HAB.out; omega, HE.out.1] at hlaw
        simp only [FillP.gtq, HLN.out] at hl3 hlaw
        generalize (fillV us bs ms ((b : Nat) : Int) ord3).price = p3 at *
        generalize (fillV us bs ms ((b : Nat) : Int) ord3).rest = r3 at *
        generalize (fillV us bs ms ((b : Nat) : Int) ord3).tk = t3 at *
        obtain ⟨hlp, hlr, hlt3⟩ := hlaw
        have hx5 : Below w5.heap.size w5 (w5.alloc (.cells #[.bool (decide (r3.num < 0)), .slice F3 f3 g3, .bool false, .slice G3 i3 j3] 31)) := (Below.refl _ _).alloc (Nat.le_refl _) _
        have hN5 := Blk.new w5 31 #[.bool (decide (r3.num < 0)), .slice F3 f3 g3, .bool false, .slice G3 i3 j3]
        have hk5 : Kp V (w5.alloc (.cells #[.bool (decide (r3.num < 0)), .slice F3 f3 g3, .bool false, .slice G3 i3 j3] 31)) := Kp.trans HKV.out (hb5.trans (hx5.mono hb5.size))
        obtain ⟨s0, s1, s2, s3, -, -, -, -⟩ := (HB.out.1.below hk5 HB.out.1.lt).four
        obtain ⟨x0, x1, x2, x3, -, -, -, -⟩ := (HB.out.2.below hk5 HB.out.2.lt).four
        obtain ⟨y0, y1, y2, y3, -, -, -, -⟩ := hN5.four
        have slt := Nat.lt_of_lt_of_le HB.out.1.lt hk5.size
        have xlt := Nat.lt_of_lt_of_le HB.out.2.lt hk5.size
        have ylt := hN5.lt
        have HTK := Lib.hid (And.intro (HX.out.1.below hk5) (And.intro (HX.out.2.1.below hk5) (And.intro (hR3.below hx5) (And.intro hl3 hlt3))))
        have HQ1 := Lib.hid (HX.out.2.2.1.below hk5)
        have HQ2 := Lib.hid (HX.out.2.2.2.1.below hk5)
        have HQ3 := Lib.hid (hQ3.below hx5)
        have HWF := Lib.hid (HBV.out.trans (hk5.mono HBV.out.size))
        generalize hV5 : w5.alloc (.cells #[.bool (decide (r3.num < 0)), .slice F3 f3 g3, .bool false, .slice G3 i3 j3] 31) = V5 at *
        have HV5 := Lib.hid hV5
        clear hV5
        have hlrs : Lv 14 (r2 + r3) := (HX.out.2.2.2.2.2.2.2.mono (show 6 ≤ 13 by omega)).add hl3'
        have TADD := Lib.hid (fun (W : World) (hW : Kp V5 W) => add_k (k := 13) (by omega) ((HQ2.out.below hW).qk (HX.out.2.2.2.2.2.2.2.mono (show 6 ≤ 13 by omega)) (by omega)) ((HQ3.out.below hW).qk hl3' (by omega)))
        have TEQ := Lib.hid (fun (W : World) (hW : Kp V5 W) (R R' : Option Addr) (k d k' d' : Nat) (h : RQ W (r2 + r3) R k d R' k' d') => eq_k ((HQ1.out.below hW).qk (HX.out.2.2.2.2.2.1.mono (show 6 ≤ 14 by omega)) (by omega)) (h.qk hlrs (by omega)))
        rw [decide_eq_true hlr] at TEQ
        generalize r2 + r3 = rs at *
        have HS17 := Lib.hid (show ∀ w', Kp V5 w' → (w'.cell? ⟨w2.heap.size, 0, none⟩ = some (.bool (decide (r1.num < 0))) ∧ w'.cell? ⟨w2.heap.size, 1, none⟩ = some (.slice F1 f1 g1) ∧ w'.cell? ⟨w2.heap.size, 2, none⟩ = some (.bool false) ∧ w'.cell? ⟨w2.heap.size, 3, none⟩ = some (.slice G1 i1 j1) ∧ w'.cell? ⟨w3.heap.size, 0, none⟩ = some (.bool (decide (r2.num < 0))) ∧ w'.cell? ⟨w3.heap.size, 1, none⟩ = some (.slice F2 f2 g2) ∧ w'.cell? ⟨w3.heap.size, 2, none⟩ = some (.bool false) ∧ w'.cell? ⟨w3.heap.size, 3, none⟩ = some (.slice G2 i2 j2) ∧ w'.cell? ⟨w5.heap.size, 0, none⟩ = some (.bool (decide (r3.num < 0))) ∧ w'.cell? ⟨w5.heap.size, 1, none⟩ = some (.slice F3 f3 g3) ∧ w'.cell? ⟨w5.heap.size, 2, none⟩ = some (.bool false) ∧ w'.cell? ⟨w5.heap.size, 3, none⟩ = some (.slice G3 i3 j3)) ∧ Kp V5 w' from fun w' hk => ⟨⟨(Below.cell hk (p := ⟨w2.heap.size, _, none⟩) slt).trans s0, (Below.cell hk (p := ⟨w2.heap.size, _, none⟩) slt).trans s1, (Below.cell hk (p := ⟨w2.heap.size, _, none⟩) slt).trans s2, (Below.cell hk (p := ⟨w2.heap.size, _, none⟩) slt).trans s3, (Below.cell hk (p := ⟨w3.heap.size, _, none⟩) xlt).trans x0, (Below.cell hk (p := ⟨w3.heap.size, _, none⟩) xlt).trans x1, (Below.cell hk (p := ⟨w3.heap.size, _, none⟩) xlt).trans x2, (Below.cell hk (p := ⟨w3.heap.size, _, none⟩) xlt).trans x3, (Below.cell hk (p := ⟨w5.heap.size, _, none⟩) ylt).trans y0, (Below.cell hk (p := ⟨w5.heap.size, _, none⟩) ylt).trans y1, (Below.cell hk (p := ⟨w5.heap.size, _, none⟩) ylt).trans y2, (Below.cell hk (p := ⟨w5.heap.size, _, none⟩) ylt).trans y3⟩, hk⟩)
        have m1 : (if p2 < p3 then p3 else p2) = p1 := by rw [hlp]; simp only [Int.max_def]; split <;> split <;> omega
        have m2 : max p2 p3 = p1 := hlp.symm
        have z5 : (p1 != p1) = false := by simp
        clear T3 hx5 hN5 hk5 s0 s1 s2 s3 x0 x1 x2 x3 y0 y1 y2 y3 slt xlt ylt hR3 hQ3 hl3 hl3' hlt3 hlr hlp hlrs hg5 hb5 hord3
        go_wp2_with fail
        rw [HV5.out]
        refine wp_region_held_drew (S := fun w' => (w'.cell? ⟨w2.heap.size, 0, none⟩ = some (.bool (decide (r1.num < 0))) ∧ w'.cell? ⟨w2.heap.size, 1, none⟩ = some (.slice F1 f1 g1) ∧ w'.cell? ⟨w2.heap.size, 2, none⟩ = some (.bool false) ∧ w'.cell? ⟨w2.heap.size, 3, none⟩ = some (.slice G1 i1 j1) ∧ w'.cell? ⟨w3.heap.size, 0, none⟩ = some (.bool (decide (r2.num < 0))) ∧ w'.cell? ⟨w3.heap.size, 1, none⟩ = some (.slice F2 f2 g2) ∧ w'.cell? ⟨w3.heap.size, 2, none⟩ = some (.bool false) ∧ w'.cell? ⟨w3.heap.size, 3, none⟩ = some (.slice G2 i2 j2) ∧ w'.cell? ⟨w5.heap.size, 0, none⟩ = some (.bool (decide (r3.num < 0))) ∧ w'.cell? ⟨w5.heap.size, 1, none⟩ = some (.slice F3 f3 g3) ∧ w'.cell? ⟨w5.heap.size, 2, none⟩ = some (.bool false) ∧ w'.cell? ⟨w5.heap.size, 3, none⟩ = some (.slice G3 i3 j3)) ∧ Kp V5 w') (by kernel_rfl) (HS17.out _ (Kp.drew (Kp.refl V5))) (fun hHeld => ?_)
        refine wpAnyH_take (i := 0) (v := ?v34) rfl (by kernel_rfl) (by kernel_rfl) (by kernel_rfl) (fun _ _ _ h => h) (Or.inl ⟨by rfl, ?y34⟩) (by assumption) ?r34
        case y34 => (intro w hSw; (try dsimp only at hSw); (try simp only [List.getElem_toArray, List.getElem_cons_zero, List.getElem_cons_succ]); go_simp; first | done | with_reducible rfl)
        (try simp only [Act.put, List.getElem_toArray, List.getElem_cons_zero, List.getElem_cons_succ, List.setIfInBounds_toArray, List.set_cons_zero, List.set_cons_succ])
        refine wpAnyH_take (i := 1) (v := ?v35) rfl (by kernel_rfl) (by kernel_rfl) (by kernel_rfl) (fun _ _ _ h => h) (Or.inl ⟨by rfl, ?y35⟩) (by assumption) ?r35
        case y35 => (intro w hSw; (try dsimp only at hSw); (try simp only [List.getElem_toArray, List.getElem_cons_zero, List.getElem_cons_succ]); go_simp; first | done | with_reducible rfl)
        (try simp only [Act.put, List.getElem_toArray, List.getElem_cons_zero, List.getElem_cons_succ, List.setIfInBounds_toArray, List.set_cons_zero, List.set_cons_succ])
        refine wpAnyH_take (i := 2) (v := ?v36) rfl (by kernel_rfl) (by kernel_rfl) (by kernel_rfl) (fun _ _ _ h => h) (Or.inl ⟨by rfl, ?y36⟩) (by assumption) ?r36
        case y36 => (intro w hSw; (try dsimp only at hSw); (try simp only [List.getElem_toArray, List.getElem_cons_zero, List.getElem_cons_succ]); go_simp; first | done | with_reducible rfl)
        (try simp only [Act.put, List.getElem_toArray, List.getElem_cons_zero, List.getElem_cons_succ, List.setIfInBounds_toArray, List.set_cons_zero, List.set_cons_succ])
        refine wpAnyH_take (i := 3) (v := ?v37) rfl (by kernel_rfl) (by kernel_rfl) (by kernel_rfl) (fun _ _ _ h => h) (Or.inl ⟨by rfl, ?y37⟩) (by assumption) ?r37
        case y37 => (intro w hSw; (try dsimp only at hSw); (try simp only [List.getElem_toArray, List.getElem_cons_zero, List.getElem_cons_succ]); go_simp; first | done | with_reducible rfl)
        (try simp only [Act.put, List.getElem_toArray, List.getElem_cons_zero, List.getElem_cons_succ, List.setIfInBounds_toArray, List.set_cons_zero, List.set_cons_succ])
        refine wpAnyH_take (i := 4) (v := ?v38) rfl (by kernel_rfl) (by kernel_rfl) (by kernel_rfl) (fun _ _ _ h => h) (Or.inl ⟨by rfl, ?y38⟩) (by assumption) ?r38
        case y38 => (intro w hSw; (try dsimp only at hSw); (try simp only [List.getElem_toArray, List.getElem_cons_zero, List.getElem_cons_succ]); go_simp; first | done | with_reducible rfl)
        (try simp only [Act.put, List.getElem_toArray, List.getElem_cons_zero, List.getElem_cons_succ, List.setIfInBounds_toArray, List.set_cons_zero, List.set_cons_succ])
        refine wpAnyH_take (i := 5) (v := ?v39) rfl (by kernel_rfl) (by kernel_rfl) (by kernel_rfl) (fun _ _ _ h => h) (Or.inl ⟨by rfl, ?y39⟩) (by assumption) ?r39
        case y39 => (intro w hSw; (try dsimp only at hSw); (try simp only [List.getElem_toArray, List.getElem_cons_zero, List.getElem_cons_succ]); go_simp; first | done | with_reducible rfl)
        (try simp only [Act.put, List.getElem_toArray, List.getElem_cons_zero, List.getElem_cons_succ, List.setIfInBounds_toArray, List.set_cons_zero, List.set_cons_succ])
        refine wpAnyH_take (i := 6) (v := ?v40) rfl (by kernel_rfl) (by kernel_rfl) (by kernel_rfl) (fun _ _ _ h => h) (Or.inl ⟨by rfl, ?y40⟩) (by assumption) ?r40
        case y40 => (intro w hSw; (try dsimp only at hSw); (try simp only [List.getElem_toArray, List.getElem_cons_zero, List.getElem_cons_succ]); go_simp; first | done | with_reducible rfl)
        (try simp only [Act.put, List.getElem_toArray, List.getElem_cons_zero, List.getElem_cons_succ, List.setIfInBounds_toArray, List.set_cons_zero, List.set_cons_succ])
        refine wpAnyH_take (i := 7) (v := ?v41) rfl (by kernel_rfl) (by kernel_rfl) (by kernel_rfl) (fun _ _ _ h => h) (Or.inl ⟨by rfl, ?y41⟩) (by assumption) ?r41
        case y41 => (intro w hSw; (try dsimp only at hSw); (try simp only [List.getElem_toArray, List.getElem_cons_zero, List.getElem_cons_succ]); go_simp; first | done | with_reducible rfl)
        (try simp only [Act.put, List.getElem_toArray, List.getElem_cons_zero, List.getElem_cons_succ, List.setIfInBounds_toArray, List.set_cons_zero, List.set_cons_succ])
        refine wpAnyH_take (i := 8) (v := ?v42) rfl (by kernel_rfl) (by kernel_rfl) (by kernel_rfl) (fun _ _ _ h => h) (Or.inl ⟨by rfl, ?y42⟩) (by assumption) ?r42
        case y42 => (intro w hSw; (try dsimp only at hSw); (try simp only [List.getElem_toArray, List.getElem_cons_zero, List.getElem_cons_succ]); go_simp; first | done | with_reducible rfl)
        (try simp only [Act.put, List.getElem_toArray, List.getElem_cons_zero, List.getElem_cons_succ, List.setIfInBounds_toArray, List.set_cons_zero, List.set_cons_succ])
        refine wpAnyH_take (i := 9) (v := ?v43) rfl (by kernel_rfl) (by kernel_rfl) (by kernel_rfl) (fun _ _ _ h => h) (Or.inl ⟨by rfl, ?y43⟩) (by assumption) ?r43
        case y43 => (intro w hSw; (try dsimp only at hSw); (try simp only [List.getElem_toArray, List.getElem_cons_zero, List.getElem_cons_succ]); go_simp; first | done | with_reducible rfl)
        (try simp only [Act.put, List.getElem_toArray, List.getElem_cons_zero, List.getElem_cons_succ, List.setIfInBounds_toArray, List.set_cons_zero, List.set_cons_succ])
        refine wpAnyH_take (i := 10) (v := ?v44) rfl (by kernel_rfl) (by kernel_rfl) (by kernel_rfl) (fun _ _ _ h => h) (Or.inl ⟨by rfl, ?y44⟩) (by assumption) ?r44
        case y44 => (intro w hSw; (try dsimp only at hSw); (try simp only [List.getElem_toArray, List.getElem_cons_zero, List.getElem_cons_succ]); go_simp; first | done | with_reducible rfl)
        (try simp only [Act.put, List.getElem_toArray, List.getElem_cons_zero, List.getElem_cons_succ, List.setIfInBounds_toArray, List.set_cons_zero, List.set_cons_succ])
        refine wpAnyH_take (i := 11) (v := ?v45) rfl (by kernel_rfl) (by kernel_rfl) (by kernel_rfl) (fun _ _ _ h => h) (Or.inl ⟨by rfl, ?y45⟩) (by assumption) ?r45
        case y45 => (intro w hSw; (try dsimp only at hSw); (try simp only [List.getElem_toArray, List.getElem_cons_zero, List.getElem_cons_succ]); go_simp; first | done | with_reducible rfl)
        (try simp only [Act.put, List.getElem_toArray, List.getElem_cons_zero, List.getElem_cons_succ, List.setIfInBounds_toArray, List.set_cons_zero, List.set_cons_succ])
        refine wpAnyH_take (i := 12) (v := ?v46) rfl (by kernel_rfl) (by kernel_rfl) (by kernel_rfl) (fun _ _ _ h => h) (Or.inl ⟨by rfl, ?y46⟩) (by assumption) ?r46
        case y46 => (intro w hSw; (try dsimp only at hSw); (try simp only [List.getElem_toArray, List.getElem_cons_zero, List.getElem_cons_succ]); go_simp; first | done | with_reducible rfl)
        (try simp only [Act.put, List.getElem_toArray, List.getElem_cons_zero, List.getElem_cons_succ, List.setIfInBounds_toArray, List.set_cons_zero, List.set_cons_succ])
        refine wpAnyH_take (i := 13) (v := ?v47) rfl (by kernel_rfl) (by kernel_rfl) (by kernel_rfl) (fun _ _ _ h => h) (Or.inl ⟨by rfl, ?y47⟩) (by assumption) ?r47
        case y47 => (intro w hSw; (try dsimp only at hSw); (try simp only [List.getElem_toArray, List.getElem_cons_zero, List.getElem_cons_succ]); go_simp; first | done | with_reducible rfl)
        (try simp only [Act.put, List.getElem_toArray, List.getElem_cons_zero, List.getElem_cons_succ, List.setIfInBounds_toArray, List.set_cons_zero, List.set_cons_succ])
        refine wpAnyH_take (i := 14) (v := ?v48) rfl (by kernel_rfl) (by kernel_rfl) (by kernel_rfl) (fun _ _ _ h => h) (Or.inl ⟨by rfl, ?y48⟩) (by assumption) ?r48
        case y48 => (intro w hSw; (try dsimp only at hSw); (try simp only [List.getElem_toArray, List.getElem_cons_zero, List.getElem_cons_succ]); go_simp; first | done | with_reducible rfl)
        (try simp only [Act.put, List.getElem_toArray, List.getElem_cons_zero, List.getElem_cons_succ, List.setIfInBounds_toArray, List.set_cons_zero, List.set_cons_succ])
        refine wpAnyH_take (i := 15) (v := ?v49) rfl (by kernel_rfl) (by kernel_rfl) (by kernel_rfl) (fun _ _ _ h => h) (Or.inl ⟨by rfl, ?y49⟩) (by assumption) ?r49
        case y49 => (intro w hSw; (try dsimp only at hSw); (try simp only [List.getElem_toArray, List.getElem_cons_zero, List.getElem_cons_succ]); go_simp; first | done | with_reducible rfl)
        (try simp only [Act.put, List.getElem_toArray, List.getElem_cons_zero, List.getElem_cons_succ, List.setIfInBounds_toArray, List.set_cons_zero, List.set_cons_succ])
        refine wpAnyH_take (i := 16) (v := ?v50) rfl (by kernel_rfl) (by kernel_rfl) (by kernel_rfl) (fun _ _ _ h => h) (Or.inl ⟨by rfl, ?y50⟩) (by assumption) ?r50
        case y50 => (intro w hSw; (try dsimp only at hSw); (try simp only [List.getElem_toArray, List.getElem_cons_zero, List.getElem_cons_succ]); go_simp; first | done | with_reducible rfl)
        (try simp only [Act.put, List.getElem_toArray, List.getElem_cons_zero, List.getElem_cons_succ, List.setIfInBounds_toArray, List.set_cons_zero, List.set_cons_succ])
        refine wpAnyH_take (i := 17) (v := ?v51) rfl (by kernel_rfl) (by kernel_rfl) (by kernel_rfl) (fun _ _ _ h => h) (Or.inl ⟨by rfl, ?y51⟩) (by assumption) ?r51
        case y51 => (intro w hSw; (try dsimp only at hSw); (try simp only [List.getElem_toArray, List.getElem_cons_zero, List.getElem_cons_succ]); go_simp; first | done | with_reducible rfl)
        (try simp only [Act.put, List.getElem_toArray, List.getElem_cons_zero, List.getElem_cons_succ, List.setIfInBounds_toArray, List.set_cons_zero, List.set_cons_succ])
        refine wpAnyH_take (i := 18) (v := ?v52) rfl (by kernel_rfl) (by kernel_rfl) (by kernel_rfl) (fun _ _ _ h => h) (Or.inl ⟨by rfl, ?y52⟩) (by assumption) ?r52
        case y52 => (intro w hSw; (try dsimp only at hSw); (try simp only [List.getElem_toArray, List.getElem_cons_zero, List.getElem_cons_succ]); go_simp; first | done | with_reducible rfl)
        (try simp only [Act.put, List.getElem_toArray, List.getElem_cons_zero, List.getElem_cons_succ, List.setIfInBounds_toArray, List.set_cons_zero, List.set_cons_succ])
        refine wpAnyH_take (i := 19) (v := ?v53) rfl (by kernel_rfl) (by kernel_rfl) (by kernel_rfl) (fun _ _ _ h => h) (Or.inl ⟨by rfl, ?y53⟩) (by assumption) ?r53
        case y53 => (intro w hSw; (try dsimp only at hSw); (try simp only [List.getElem_toArray, List.getElem_cons_zero, List.getElem_cons_succ]); go_simp; first | done | with_reducible rfl)
        (try simp only [Act.put, List.getElem_toArray, List.getElem_cons_zero, List.getElem_cons_succ, List.setIfInBounds_toArray, List.set_cons_zero, List.set_cons_succ])
        refine wpAnyH_ready (rs := [20]) (by kernel_rfl) (by simp) ?_
        refine AllReadyH.cons rfl (fun K hK => ?_) ?_
        · (try simp only [List.getElem_toArray, List.getElem_cons_zero, List.getElem_cons_succ])
          go_simp
          have hk := And.right ‹_ ∧ Kp V5 _›
          refine (TADD.out _ hk).mono ?_
          rintro e v1 ⟨A1, q1, e1, A2, q2, e2, rfl, hk1, hk2, hW1, hW2, hF1, hF2, hbx⟩
          have hp := Kp.trans hk hbx
          have HW := Lib.hid (show RQ v1 rs A1 q1 e1 A2 q2 e2 from ⟨hk1, hk2, hW1, hW2⟩)
          clear hk hbx hk1 hk2 hW1 hW2 hF1 hF2
          (try (go_wp2_with fail))
          refine hK.out _ _ ?k55 (fun hHeld55 => ?n55)
          case k55 => ((try dsimp only); first | (with_reducible refine HS17.out _ ?_; with_reducible assumption) | (with_reducible refine HS17.out _ (Kp.drew ?_); with_reducible assumption) | (with_reducible refine' HS17.out _ (Kp.drew (And.right ?_)); rotate_left; with_reducible assumption))
          clear hK K
          (try simp only [Act.put, List.getElem_toArray, List.getElem_cons_zero, List.getElem_cons_succ, List.setIfInBounds_toArray, List.set_cons_zero, List.set_cons_succ])
          refine wpAnyH_ready (rs := [21]) (by kernel_rfl) (by simp) ?_
          refine AllReadyH.cons rfl (fun K hK => ?_) ?_
          · (try simp only [List.getElem_toArray, List.getElem_cons_zero, List.getElem_cons_succ])
            go_simp
            have hk := And.right ‹_ ∧ Kp V5 _›
            refine (TEQ.out _ hk _ _ _ _ _ _ (by first | exact HW.out | exact RQ.below HW.out (by assumption))).mono ?_
            rintro e v2 ⟨rfl, hbx2⟩
            have hp2 := Kp.trans hk hbx2
            clear hk hbx2
            (try (go_wp2_with fail))
            refine hK.out _ _ ?k57 (fun hHeld57 => ?n57)
            case k57 => ((try dsimp only); first | (with_reducible refine HS17.out _ ?_; with_reducible assumption) | (with_reducible refine HS17.out _ (Kp.drew ?_); with_reducible assumption) | (with_reducible refine' HS17.out _ (Kp.drew (And.right ?_)); rotate_left; with_reducible assumption))
            clear hK K
            (try simp only [Act.put, List.getElem_toArray, List.getElem_cons_zero, List.getElem_cons_succ, List.setIfInBounds_toArray, List.set_cons_zero, List.set_cons_succ])
            refine wpAnyH_take (i := 22) (v := ?v58) rfl (by kernel_rfl) (by kernel_rfl) (by kernel_rfl) (fun _ _ _ h => h) (Or.inl ⟨by rfl, ?y58⟩) (by assumption) ?r58
            case y58 => (intro w hSw; (try dsimp only at hSw); (try simp only [List.getElem_toArray, List.getElem_cons_zero, List.getElem_cons_succ]); go_simp; first | done | with_reducible rfl)
            (try simp only [Act.put, List.getElem_toArray, List.getElem_cons_zero, List.getElem_cons_succ, List.setIfInBounds_toArray, List.set_cons_zero, List.set_cons_succ])
            refine wpAnyH_take (i := 23) (v := ?v59) rfl (by kernel_rfl) (by kernel_rfl) (by kernel_rfl) (fun _ _ _ h => h) (Or.inl ⟨by rfl, ?y59⟩) (by assumption) ?r59
            case y59 => (intro w hSw; (try dsimp only at hSw); (try simp only [List.getElem_toArray, List.getElem_cons_zero, List.getElem_cons_succ]); go_simp; first | done | with_reducible rfl)
            (try simp only [Act.put, List.getElem_toArray, List.getElem_cons_zero, List.getElem_cons_succ, List.setIfInBounds_toArray, List.set_cons_zero, List.set_cons_succ])
            refine wpAnyH_done (by kernel_rfl) ?_ _
            have HKF := Lib.hid hp2
            clear hp hp2 HW TADD TEQ
            (try go_wp2_with fail)
            go_loopw [25] (fun t wr2 => ∃ k : Nat, k ≤ i ∧ t = .int .i64 (k : Int) ∧ Hid (Kp V5 wr2)) (fun t _ => i - (intOf t).toNat)
            case atStart => exact ⟨0, Nat.zero_le _, rfl, HKF⟩
            case round =>
              obtain ⟨k, hkk, rfl, HK2⟩ := hrel
              by_cases hlt2 : k < i
              · obtain ⟨A5, k5, c5, A6, k6, c6, s0, s1, s2, s3, -, -, -, -, hk5, hk6, hW5, hW6⟩ := HTK.out.1.cells hlt2
                obtain ⟨A7, k7, c7, A8, k8, c8, x0, x1, x2, x3, -, -, -, -, hk7, hk8, hW7, hW8⟩ := HTK.out.2.1.cells hlt2
                obtain ⟨A9, k9, c9, A10, k10, c10, y0, y1, y2, y3, -, -, -, -, hk9, hk10, hW9, hW10⟩ := HTK.out.2.2.1.cells hlt2
                have slt : g1' < V5.heap.size := by obtain ⟨_, _, hx, _⟩ := HTK.out.1; exact hx.lt
                have xlt : gb < V5.heap.size := by obtain ⟨_, _, hx, _⟩ := HTK.out.2.1; exact hx.lt
                have ylt : g5 < V5.heap.size := by obtain ⟨_, _, hx, _⟩ := HTK.out.2.2.1; exact hx.lt
                have hl6a := HX.out.2.2.2.2.1 k hlt2
                have hl6b := HX.out.2.2.2.2.2.2.1 k hlt2
                have hl13 := HTK.out.2.2.2.1 k hlt2
                have hle := HTK.out.2.2.2.2 k hlt2
                unfold Rv.gt at hle
                generalize t1[k]?.getD 0 = ta at *
                generalize t2[k]?.getD 0 = tb at *
                generalize t3[k]?.getD 0 = tc at *
                have hls := (hl6b.mono (show 6 ≤ 13 by omega)).add hl13
                have TADD2 := Lib.hid (fun (W : World) (hW : Kp V5 W) => add_k (k := 13) (by omega) ((RQ.below ⟨hk7, hk8, hW7, hW8⟩ hW).qk (hl6b.mono (show 6 ≤ 13 by omega)) (by omega)) ((RQ.below ⟨hk9, hk10, hW9, hW10⟩ hW).qk hl13 (by omega)))
                have TEQ2 := Lib.hid (fun (W : World) (hW : Kp V5 W) (R R' : Option Addr) (k d k' d' : Nat) (h : RQ W (tb + tc) R k d R' k' d') => eq_k ((RQ.below ⟨hk5, hk6, hW5, hW6⟩ hW).qk (hl6a.mono (show 6 ≤ 14 by omega)) (by omega)) (h.qk hls (by omega)))
                rw [decide_eq_true hle] at TEQ2
                generalize tb + tc = ts at *
                have HS22 := Lib.hid (show ∀ w', Kp V5 w' → (w'.cell? ⟨g1', k * 4, none⟩ = some (.bool (decide (ta.num < 0))) ∧ w'.cell? ⟨g1', k * 4 + 1, none⟩ = some (.slice A5 k5 c5) ∧ w'.cell? ⟨g1', k * 4 + 2, none⟩ = some (.bool false) ∧ w'.cell? ⟨g1', k * 4 + 3, none⟩ = some (.slice A6 k6 c6) ∧ w'.cell? ⟨gb, k * 4, none⟩ = some (.bool (decide (tb.num < 0))) ∧ w'.cell? ⟨gb, k * 4 + 1, none⟩ = some (.slice A7 k7 c7) ∧ w'.cell? ⟨gb, k * 4 + 2, none⟩ = some (.bool false) ∧ w'.cell? ⟨gb, k * 4 + 3, none⟩ = some (.slice A8 k8 c8) ∧ w'.cell? ⟨g5, k * 4, none⟩ = some (.bool (decide (tc.num < 0))) ∧ w'.cell? ⟨g5, k * 4 + 1, none⟩ = some (.slice A9 k9 c9) ∧ w'.cell? ⟨g5, k * 4 + 2, none⟩ = some (.bool false) ∧ w'.cell? ⟨g5, k * 4 + 3, none⟩ = some (.slice A10 k10 c10)) ∧ Kp V5 w' from fun w' hk => ⟨⟨(Below.cell hk (p := ⟨g1', _, none⟩) slt).trans s0, (Below.cell hk (p := ⟨g1', _, none⟩) slt).trans s1, (Below.cell hk (p := ⟨g1', _, none⟩) slt).trans s2, (Below.cell hk (p := ⟨g1', _, none⟩) slt).trans s3, (Below.cell hk (p := ⟨gb, _, none⟩) xlt).trans x0, (Below.cell hk (p := ⟨gb, _, none⟩) xlt).trans x1, (Below.cell hk (p := ⟨gb, _, none⟩) xlt).trans x2, (Below.cell hk (p := ⟨gb, _, none⟩) xlt).trans x3, (Below.cell hk (p := ⟨g5, _, none⟩) ylt).trans y0, (Below.cell hk (p := ⟨g5, _, none⟩) ylt).trans y1, (Below.cell hk (p := ⟨g5, _, none⟩) ylt).trans y2, (Below.cell hk (p := ⟨g5, _, none⟩) ylt).trans y3⟩, hk⟩)
                have hki1 : (0 : Int) ≤ (k : Int) := by omega
                have hki2 : (k : Int) < (i : Int) := by omega
                clear hk5 hk6 hW5 hW6 hk7 hk8 hW7 hW8 hk9 hk10 hW9 hW10 hl6a hl6b hl13 hle hls s0 s1 s2 s3 x0 x1 x2 x3 y0 y1 y2 y3 slt xlt ylt
                go_wp2_with fail
                refine wp_region_held_drew (S := fun w' => (w'.cell? ⟨g1', k * 4, none⟩ = some (.bool (decide (ta.num < 0))) ∧ w'.cell? ⟨g1', k * 4 + 1, none⟩ = some (.slice A5 k5 c5) ∧ w'.cell? ⟨g1', k * 4 + 2, none⟩ = some (.bool false) ∧ w'.cell? ⟨g1', k * 4 + 3, none⟩ = some (.slice A6 k6 c6) ∧ w'.cell? ⟨gb, k * 4, none⟩ = some (.bool (decide (tb.num < 0))) ∧ w'.cell? ⟨gb, k * 4 + 1, none⟩ = some (.slice A7 k7 c7) ∧ w'.cell? ⟨gb, k * 4 + 2, none⟩ = some (.bool false) ∧ w'.cell? ⟨gb, k * 4 + 3, none⟩ = some (.slice A8 k8 c8) ∧ w'.cell? ⟨g5, k * 4, none⟩ = some (.bool (decide (tc.num < 0))) ∧ w'.cell? ⟨g5, k * 4 + 1, none⟩ = some (.slice A9 k9 c9) ∧ w'.cell? ⟨g5, k * 4 + 2, none⟩ = some (.bool false) ∧ w'.cell? ⟨g5, k * 4 + 3, none⟩ = some (.slice A10 k10 c10)) ∧ Kp V5 w') (by kernel_rfl) (HS22.out _ (Kp.drew HK2.out)) (fun hHeld => ?_)
                refine wpAnyH_take (i := 0) (v := ?v1) rfl (by kernel_rfl) (by kernel_rfl) (by kernel_rfl) (fun _ _ _ h => h) (Or.inl ⟨by rfl, ?y1⟩) (by assumption) ?r1
                case y1 => (intro w hSw; (try dsimp only at hSw); (try simp only [List.getElem_toArray, List.getElem_cons_zero, List.getElem_cons_succ]); go_simp; first | done | with_reducible rfl)
                (try simp only [Act.put, List.getElem_toArray, List.getElem_cons_zero, List.getElem_cons_succ, List.setIfInBounds_toArray, List.set_cons_zero, List.set_cons_succ])
                refine wpAnyH_take (i := 1) (v := ?v2) rfl (by kernel_rfl) (by kernel_rfl) (by kernel_rfl) (fun _ _ _ h => h) (Or.inl ⟨by rfl, ?y2⟩) (by assumption) ?r2
                case y2 => (intro w hSw; (try dsimp only at hSw); (try simp only [List.getElem_toArray, List.getElem_cons_zero, List.getElem_cons_succ]); go_simp; first | done | with_reducible rfl)
                (try simp only [Act.put, List.getElem_toArray, List.getElem_cons_zero, List.getElem_cons_succ, List.setIfInBounds_toArray, List.set_cons_zero, List.set_cons_succ])
                refine wpAnyH_take (i := 2) (v := ?v3) rfl (by kernel_rfl) (by kernel_rfl) (by kernel_rfl) (fun _ _ _ h => h) (Or.inl ⟨by rfl, ?y3⟩) (by assumption) ?r3
                case y3 => (intro w hSw; (try dsimp only at hSw); (try simp only [List.getElem_toArray, List.getElem_cons_zero, List.getElem_cons_succ]); go_simp; first | done | with_reducible rfl)
                (try simp only [Act.put, List.getElem_toArray, List.getElem_cons_zero, List.getElem_cons_succ, List.setIfInBounds_toArray, List.set_cons_zero, List.set_cons_succ])
                refine wpAnyH_take (i := 3) (v := ?v4) rfl (by kernel_rfl) (by kernel_rfl) (by kernel_rfl) (fun _ _ _ h => h) (Or.inl ⟨by rfl, ?y4⟩) (by assumption) ?r4
                case y4 => (intro w hSw; (try dsimp only at hSw); (try simp only [List.getElem_toArray, List.getElem_cons_zero, List.getElem_cons_succ]); go_simp; first | done | with_reducible rfl)
                (try simp only [Act.put, List.getElem_toArray, List.getElem_cons_zero, List.getElem_cons_succ, List.setIfInBounds_toArray, List.set_cons_zero, List.set_cons_succ])
                refine wpAnyH_take (i := 4) (v := ?v5) rfl (by kernel_rfl) (by kernel_rfl) (by kernel_rfl) (fun _ _ _ h => h) (Or.inl ⟨by rfl, ?y5⟩) (by assumption) ?r5
                case y5 => (intro w hSw; (try dsimp only at hSw); (try simp only [List.getElem_toArray, List.getElem_cons_zero, List.getElem_cons_succ]); go_simp; first | done | with_reducible rfl)
                (try simp only [Act.put, List.getElem_toArray, List.getElem_cons_zero, List.getElem_cons_succ, List.setIfInBounds_toArray, List.set_cons_zero, List.set_cons_succ])
                refine wpAnyH_take (i := 5) (v := ?v6) rfl (by kernel_rfl) (by kernel_rfl) (by kernel_rfl) (fun _ _ _ h => h) (Or.inl ⟨by rfl, ?y6⟩) (by assumption) ?r6
                case y6 => (intro w hSw; (try dsimp only at hSw); (try simp only [List.getElem_toArray, List.getElem_cons_zero, List.getElem_cons_succ]); go_simp; first | done | with_reducible rfl)
                (try simp only [Act.put, List.getElem_toArray, List.getElem_cons_zero, List.getElem_cons_succ, List.setIfInBounds_toArray, List.set_cons_zero, List.set_cons_succ])
                refine wpAnyH_take (i := 6) (v := ?v7) rfl (by kernel_rfl) (by kernel_rfl) (by kernel_rfl) (fun _ _ _ h => h) (Or.inl ⟨by rfl, ?y7⟩) (by assumption) ?r7
                case y7 => (intro w hSw; (try dsimp only at hSw); (try simp only [List.getElem_toArray, List.getElem_cons_zero, List.getElem_cons_succ]); go_simp; first | done | with_reducible rfl)
                (try simp only [Act.put, List.getElem_toArray, List.getElem_cons_zero, List.getElem_cons_succ, List.setIfInBounds_toArray, List.set_cons_zero, List.set_cons_succ])
                refine wpAnyH_take (i := 7) (v := ?v8) rfl (by kernel_rfl) (by kernel_rfl) (by kernel_rfl) (fun _ _ _ h => h) (Or.inl ⟨by rfl, ?y8⟩) (by assumption) ?r8
                case y8 => (intro w hSw; (try dsimp only at hSw); (try simp only [List.getElem_toArray, List.getElem_cons_zero, List.getElem_cons_succ]); go_simp; first | done | with_reducible rfl)
                (try simp only [Act.put, List.getElem_toArray, List.getElem_cons_zero, List.getElem_cons_succ, List.setIfInBounds_toArray, List.set_cons_zero, List.set_cons_succ])
                refine wpAnyH_take (i := 8) (v := ?v9) rfl (by kernel_rfl) (by kernel_rfl) (by kernel_rfl) (fun _ _ _ h => h) (Or.inl ⟨by rfl, ?y9⟩) (by assumption) ?r9
                case y9 => (intro w hSw; (try dsimp only at hSw); (try simp only [List.getElem_toArray, List.getElem_cons_zero, List.getElem_cons_succ]); go_simp; first | done | with_reducible rfl)
                (try simp only [Act.put, List.getElem_toArray, List.getElem_cons_zero, List.getElem_cons_succ, List.setIfInBounds_toArray, List.set_cons_zero, List.set_cons_succ])
                refine wpAnyH_take (i := 9) (v := ?v10) rfl (by kernel_rfl) (by kernel_rfl) (by kernel_rfl) (fun _ _ _ h => h) (Or.inl ⟨by rfl, ?y10⟩) (by assumption) ?r10
                case y10 => (intro w hSw; (try dsimp only at hSw); (try simp only [List.getElem_toArray, List.getElem_cons_zero, List.getElem_cons_succ]); go_simp; first | done | with_reducible rfl)
                (try simp only [Act.put, List.getElem_toArray, List.getElem_cons_zero, List.getElem_cons_succ, List.setIfInBounds_toArray, List.set_cons_zero, List.set_cons_succ])
                refine wpAnyH_take (i := 10) (v := ?v11) rfl (by kernel_rfl) (by kernel_rfl) (by kernel_rfl) (fun _ _ _ h => h) (Or.inl ⟨by rfl, ?y11⟩) (by assumption) ?r11
                case y11 => (intro w hSw; (try dsimp only at hSw); (try simp only [List.getElem_toArray, List.getElem_cons_zero, List.getElem_cons_succ]); go_simp; first | done | with_reducible rfl)
                (try simp only [Act.put, List.getElem_toArray, List.getElem_cons_zero, List.getElem_cons_succ, List.setIfInBounds_toArray, List.set_cons_zero, List.set_cons_succ])
                refine wpAnyH_take (i := 11) (v := ?v12) rfl (by kernel_rfl) (by kernel_rfl) (by kernel_rfl) (fun _ _ _ h => h) (Or.inl ⟨by rfl, ?y12⟩) (by assumption) ?r12
                case y12 => (intro w hSw; (try dsimp only at hSw); (try simp only [List.getElem_toArray, List.getElem_cons_zero, List.getElem_cons_succ]); go_simp; first | done | with_reducible rfl)
                (try simp only [Act.put, List.getElem_toArray, List.getElem_cons_zero, List.getElem_cons_succ, List.setIfInBounds_toArray, List.set_cons_zero, List.set_cons_succ])
                refine wpAnyH_ready (rs := [12]) (by kernel_rfl) (by simp) ?_
                refine AllReadyH.cons rfl (fun K hK => ?_) ?_
                · (try simp only [List.getElem_toArray, List.getElem_cons_zero, List.getElem_cons_succ])
                  go_simp
                  have hk := And.right ‹_ ∧ Kp V5 _›
                  refine (TADD2.out _ hk).mono ?_
                  rintro e v1 ⟨A1, q1, e1, A2, q2, e2, rfl, hk1, hk2, hW1, hW2, hF1, hF2, hbx⟩
                  have hp := Kp.trans hk hbx
                  have HW := Lib.hid (show RQ v1 ts A1 q1 e1 A2 q2 e2 from ⟨hk1, hk2, hW1, hW2⟩)
                  clear hk hbx hk1 hk2 hW1 hW2 hF1 hF2
                  (try (go_wp2_with fail))
                  refine hK.out _ _ ?k14 (fun hHeld14 => ?n14)
                  case k14 => ((try dsimp only); first | (with_reducible refine HS22.out _ ?_; with_reducible assumption) | (with_reducible refine HS22.out _ (Kp.drew ?_); with_reducible assumption) | (with_reducible refine' HS22.out _ (Kp.drew (And.right ?_)); rotate_left; with_reducible assumption))
                  clear hK K
                  (try simp only [Act.put, List.getElem_toArray, List.getElem_cons_zero, List.getElem_cons_succ, List.setIfInBounds_toArray, List.set_cons_zero, List.set_cons_succ])
                  refine wpAnyH_ready (rs := [13]) (by kernel_rfl) (by simp) ?_
                  refine AllReadyH.cons rfl (fun K hK => ?_) ?_
                  · (try simp only [List.getElem_toArray, List.getElem_cons_zero, List.getElem_cons_succ])
                    go_simp
                    have hk := And.right ‹_ ∧ Kp V5 _›
                    refine (TEQ2.out _ hk _ _ _ _ _ _ (by first | exact HW.out | exact RQ.below HW.out (by assumption))).mono ?_
                    rintro e v2 ⟨rfl, hbx2⟩
                    have hp2 := Kp.trans hk hbx2
                    clear hk hbx2
                    (try (go_wp2_with fail))
                    refine hK.out _ _ ?k16 (fun hHeld16 => ?n16)
                    case k16 => ((try dsimp only); first | (with_reducible refine HS22.out _ ?_; with_reducible assumption) | (with_reducible refine HS22.out _ (Kp.drew ?_); with_reducible assumption) | (with_reducible refine' HS22.out _ (Kp.drew (And.right ?_)); rotate_left; with_reducible assumption))
                    clear hK K
                    (try simp only [Act.put, List.getElem_toArray, List.getElem_cons_zero, List.getElem_cons_succ, List.setIfInBounds_toArray, List.set_cons_zero, List.set_cons_succ])
                    refine wpAnyH_take (i := 14) (v := ?v17) rfl (by kernel_rfl) (by kernel_rfl) (by kernel_rfl) (fun _ _ _ h => h) (Or.inl ⟨by rfl, ?y17⟩) (by assumption) ?r17
                    case y17 => (intro w hSw; (try dsimp only at hSw); (try simp only [List.getElem_toArray, List.getElem_cons_zero, List.getElem_cons_succ]); go_simp; first | done | with_reducible rfl)
                    (try simp only [Act.put, List.getElem_toArray, List.getElem_cons_zero, List.getElem_cons_succ, List.setIfInBounds_toArray, List.set_cons_zero, List.set_cons_succ])
                    refine wpAnyH_done (by kernel_rfl) ?_ _
                    have HF := Lib.hid hp2
                    clear hp hp2 HW
                    go_wp2
                    go_roundw
                    case rel => exact ⟨k + 1, by omega, by first | rfl | go_num, HF⟩
                    case measure => simp [intOf]; omega
                  exact AllReadyH.nil
                exact AllReadyH.nil
              · have HF := Lib.hid (HWF.out.trans (Below.mono HK2.out HWF.out.size))
                obtain rfl : k = i := by omega
                go_wp2
                go_ret
                exact ⟨rfl, HF.out⟩
          exact AllReadyH.nil
        exact AllReadyH.nil
  · generalize rchk us bs qs ((sm : Nat) : Int) = x at *
    have e1 : (x != 0) = true := by simpa using hr
    have e3 : (x != x) = false := by simp
    clear hsame hr H2 H3
    go_wp2
    go_ret
    exact ⟨rfl, HBV.out⟩

end Go.Proofs.YtodkhjihkkmplaaGreat
