/-
Run of package clear. No statement of the seat is proved here; no conditions beyond those of each theorem.
-/
import Derived.Test.YtnjpojpfiijlfaaGreatC2
import Derived.Test.YtnjpojpfiijlfaaGreatC3
import Derived.Test.YtnjpojpfiijlfaaGreatC5
namespace Go.Proofs.YtnjpojpfiijlfaaGreat
set_option linter.unusedVariables false
set_option linter.unusedSimpArgs false
open Go.RowKit
open Wd

theorem TrZ.le {S D : List St.Lv} {z : Int} (h : TrZ S D z) (hS : ∀ x ∈ S, 0 < x.2.1 ∧ x.2.1 ≤ 16000000) (hD : ∀ x ∈ D, 0 < x.2.1 ∧ x.2.1 ≤ 16000000) : z ≤ totI S ∧ z ≤ totI D := by
  have hs := (tot_bd S hS).1
  have hd := (tot_bd D hD).1
  constructor
  · by_cases hz : z ≤ totI S
    · exact hz
    · obtain ⟨a, b, h1, _⟩ := h.2.1 (totI S) hs (by omega)
      rw [uP_out hS (Int.le_refl _)] at h1
      simp at h1
  · by_cases hz : z ≤ totI D
    · exact hz
    · obtain ⟨a, b, _, h1, _⟩ := h.2.1 (totI D) hd (by omega)
      rw [uP_out hD (Int.le_refl _)] at h1
      simp at h1
theorem lv_some {up : Bool} {n : Nat} {ls : List (List (Int × Int))} {lv : List St.Lv} (h : St.IsLv up n (St.tri 0 ls) lv) (hk : ∀ l ∈ ls, chk up l = 0) (h0 : ls.length ≠ 0) : lv.length ≠ 0 := fun h9 => by
  have h2 : lv = [] := List.eq_nil_of_length_eq_zero h9
  have h3 := getD_mem (d := ([] : List (Int × Int))) (show 0 < ls.length by omega)
  generalize ls[0]?.getD [] = l0 at *
  have h4 := (chk_ok (hk _ h3)).1
  have h5 := getD_mem (d := ((0, 0) : Int × Int)) (show 0 < l0.length by omega)
  have h6 := (h.2.1 _).2 (St.tri_price.2 ⟨_, h3, _, h5, rfl⟩)
  rw [h2] at h6
  simp at h6

/-- What Run finds. -/
structure RunV (os bs : List (List (Int × Int))) (z p wf : Int) (xs ys : List Int) (S D : List St.Lv) : Prop where
  isS : St.IsLv true os.length (St.tri 0 os) S
  isD : St.IsLv false bs.length (St.tri 0 bs) D
  vS : VL true os.length S
  vD : VL false bs.length D
  tr : TrZ S D z
  pr : PrZ os bs p
  x : xs = shAll S os.length z S.length
  y : ys = shAll D bs.length z D.length
  w : wf = costI (lvQ D) z D.length - costI (lvQ S) z S.length
/-- What Run returns. -/
def RunP (os bs : List (List (Int × Int))) (w : World) (e : Ending) (w' : World) : Prop :=
  ∃ (z p wf : Int) (xs ys : List Int) (S D : List St.Lv) (g1 g2 : Nat), e = .returned (.tuple #[.agg #[.int .i64 z, .int .i64 p, .int .i64 wf, .slice (some ⟨g1, 0, none⟩) os.length os.length, .slice (some ⟨g2, 0, none⟩) bs.length bs.length], .int .i64 0]) ∧ RunV os bs z p wf xs ys S D ∧
    IRow w' g1 xs ∧ IRow w' g2 ys ∧ w.heap.size ≤ g1 ∧ w.heap.size ≤ g2 ∧ Below w.heap.size w w'

theorem Blk.five {w : World} {g : Nat} {t : TypeId} {a b c d e : Value} (h : Blk w g t #[a, b, c, d, e]) : (w.cell? ⟨g, 0, none⟩ = some a ∧ w.cell? ⟨g, 1, none⟩ = some b ∧ w.cell? ⟨g, 2, none⟩ = some c ∧ w.cell? ⟨g, 3, none⟩ = some d ∧ w.cell? ⟨g, 4, none⟩ = some e) ∧
    w.frozen? ⟨g, 0, none⟩ = false ∧ w.frozen? ⟨g, 1, none⟩ = false ∧ w.frozen? ⟨g, 2, none⟩ = false ∧ w.frozen? ⟨g, 3, none⟩ = false ∧ w.frozen? ⟨g, 4, none⟩ = false :=
  ⟨⟨h.cell 0, h.cell 1, h.cell 2, h.cell 3, h.cell 4⟩, h.frozen 0, h.frozen 1, h.frozen 2, h.frozen 3, h.frozen 4⟩
/-- Five cells stored. -/
def st5 (w : World) (g : Nat) (a b c d e : Value) : World := ((((w.setCell ⟨g, 0, none⟩ a).setCell ⟨g, 1, none⟩ b).setCell ⟨g, 2, none⟩ c).setCell ⟨g, 3, none⟩ d).setCell ⟨g, 4, none⟩ e
theorem Blk.set5 {w : World} {g : Nat} {t : TypeId} {a b c d e : Value} (h : Blk w g t #[a, b, c, d, e]) (a' b' c' d' e' : Value) : Blk (st5 w g a' b' c' d' e') g t #[a', b', c', d', e'] := ((((h.set 0 a').set 1 b').set 2 c').set 3 d').set 4 e'
theorem Blk.far5 {w : World} {g g' : Nat} {t : TypeId} {cs : Array Value} (h : Blk w g' t cs) (hne : g' ≠ g) (a b c d e : Value) : Blk (st5 w g a b c d e) g' t cs :=
  ((((h.far (p := ⟨g, 0, none⟩) hne a).far (p := ⟨g, 1, none⟩) hne b).far (p := ⟨g, 2, none⟩) hne c).far (p := ⟨g, 3, none⟩) hne d).far (p := ⟨g, 4, none⟩) hne e
theorem below_st5 {w0 w : World} {B g : Nat} (h : Below B w0 w) (hg : B ≤ g) (a b c d e : Value) : Below B w0 (st5 w g a b c d e) :=
  ((((h.setCell (p := ⟨g, 0, none⟩) hg a).setCell (p := ⟨g, 1, none⟩) hg b).setCell (p := ⟨g, 2, none⟩) hg c).setCell (p := ⟨g, 3, none⟩) hg d).setCell (p := ⟨g, 4, none⟩) hg e

set_option maxRecDepth 100000 in
set_option maxHeartbeats 4000000 in
theorem run_no (A B : Option Addr) (n c m d : Nat) (os bs : List (List (Int × Int))) (w : World) (h : CsAt w A n os) (h' : CsAt w B m bs) (hs : ∀ l ∈ os, l.length ≤ 1000000000000) (ht : ∀ l ∈ bs, l.length ≤ 1000000000000) (hc : ckB os bs ≠ 0) :
    Calls Tryz.prog 61 #[.slice A n c, .slice B m d] w fun e w' => e = .returned (.tuple #[.agg #[.int .i64 0, .int .i64 0, .int .i64 0, .slice none 0 0, .slice none 0 0], .int .i64 (ckB os bs)]) ∧ Below w.heap.size w w' := by
  have HC := Lib.hid (fun W (hW : Below w.heap.size w W) => ccheck_any A B n c m d os bs W (h.below hW) (h'.below hW) hs ht)
  generalize ckB os bs = x at *
  have dx : (x != 0) = true := by simpa using hc
  clear h h' hs ht hc
  go_enter Tryz.func61, Tryz.ntmps61
  go_wp2_with fail
  have hbx := Blk.new w 92 #[.int .i64 0, .int .i64 0, .int .i64 0, .slice none 0 0, .slice none 0 0]
  have hb0 : Below w.heap.size w (w.alloc (.cells #[.int .i64 0, .int .i64 0, .int .i64 0, .slice none 0 0, .slice none 0 0] 92)) := (Below.refl _ _).alloc (Nat.le_refl _) _
  generalize w.alloc (.cells #[.int .i64 0, .int .i64 0, .int .i64 0, .slice none 0 0, .slice none 0 0] 92) = W0 at *
  refine (HC.out W0 hb0).mono ?_
  rintro e w1 ⟨rfl, hb1⟩
  have hbx1 := hbx.below hb1 hbx.lt
  have hB1 := hb0.trans (hb1.mono hb0.size)
  obtain ⟨⟨c0, c1, c2, c3, c4⟩, f0, f1, f2, f3, f4⟩ := hbx1.five
  obtain ⟨⟨d0, d1, d2, d3, d4⟩, -⟩ := (hbx1.set5 (.int .i64 0) (.int .i64 0) (.int .i64 0) (.slice none 0 0) (.slice none 0 0)).five
  have HB2 := Lib.hid (below_st5 hB1 (Nat.le_refl w.heap.size) (.int .i64 0) (.int .i64 0) (.int .i64 0) (.slice none 0 0) (.slice none 0 0))
  unfold st5 at d0 d1 d2 d3 d4 HB2
  clear hbx hb0 hb1 HC hbx1 hB1
  go_wp2
  refine bodyPost_ret (v := .tuple #[.agg #[.int .i64 0, .int .i64 0, .int .i64 0, .slice none 0 0, .slice none 0 0], .int .i64 x]) ?_ rfl ⟨rfl, HB2.out⟩
  simp [results, Tryz.results61, go_sem, d0, d1, d2, d3, d4]

set_option maxRecDepth 100000 in
set_option maxHeartbeats 8000000 in
theorem run_ok (A B : Option Addr) (n c m d : Nat) (os bs : List (List (Int × Int))) (w : World) (h : CsAt w A n os) (h' : CsAt w B m bs) (hc : ckB os bs = 0) :
    Calls Tryz.prog 61 #[.slice A n c, .slice B m d] w (RunP os bs w) := by
  obtain ⟨hl5, hl6, hco, hcb⟩ := ckB_iff.1 hc
  have hs : ∀ l ∈ os, l.length ≤ 1000000000000 := fun l hl => by have := (chk_ok (hco l hl)).2.1; omega
  have ht : ∀ l ∈ bs, l.length ≤ 1000000000000 := fun l hl => by have := (chk_ok (hcb l hl)).2.1; omega
  have hn := h.1
  have hm := h'.1
  subst hn
  subst hm
  have HC := Lib.hid (fun W (hW : Below w.heap.size w W) => ccheck_any A B os.length c bs.length d os bs W (h.below hW) (h'.below hW) hs ht)
  rw [hc] at HC
  have hcS : (ckC true os).2 = 0 := ckC_iff.2 ⟨by omega, hco⟩
  have hcD : (ckC false bs).2 = 0 := ckC_iff.2 ⟨by omega, hcb⟩
  have HMO := Lib.hid (fun W (hW : Below w.heap.size w W) => merge_offers_any A os.length c os W (h.below hW) hs)
  have HMB := Lib.hid (fun W (hW : Below w.heap.size w W) => merge_bids_any B bs.length d bs W (h'.below hW) ht)
  have HCP := Lib.hid (fun W (hW : Below w.heap.size w W) => cprice_any A B os.length c bs.length d os bs W (h.below hW) (h'.below hW) hco hcb hl5 hl6)
  have HCO := Lib.hid (And.intro hco hcb)
  clear h h' hs ht hc
  go_enter Tryz.func61, Tryz.ntmps61
  go_wp2_with fail
  have hbx := Blk.new w 92 #[.int .i64 0, .int .i64 0, .int .i64 0, .slice none 0 0, .slice none 0 0]
  have hb0 : Below w.heap.size w (w.alloc (.cells #[.int .i64 0, .int .i64 0, .int .i64 0, .slice none 0 0, .slice none 0 0] 92)) := (Below.refl _ _).alloc (Nat.le_refl _) _
  generalize w.alloc (.cells #[.int .i64 0, .int .i64 0, .int .i64 0, .slice none 0 0, .slice none 0 0] 92) = W0 at *
  refine (HC.out W0 hb0).mono ?_
  rintro e w1 ⟨rfl, hb1⟩
  have HBX1 := Lib.hid (hbx.below hb1 hbx.lt)
  have HB1 := Lib.hid (hb0.trans (hb1.mono hb0.size))
  clear hbx hb0 hb1 HC
  go_wp2_with fail
  refine (HMO.out w1 HB1.out).mono ?_
  rintro e w2 ⟨A1, m1, cap1, pl1, S, rfl, hL1, hV1, -, hb2⟩
  rw [hcS]
  have HV1 := Lib.hid (hV1 hcS)
  have HL1 := Lib.hid hL1
  have HBX2 := Lib.hid (HBX1.out.below hb2 HBX1.out.lt)
  have HB2 := Lib.hid (HB1.out.trans (hb2.mono HB1.out.size))
  clear hL1 hV1 hb2 HMO HB1 HBX1
  go_wp2_with fail
  refine (HMB.out w2 HB2.out).mono ?_
  rintro e w3 ⟨A2, m2, cap2, pl2, D, rfl, hL2, hV2, -, hb3⟩
  rw [hcD]
  have HV2 := Lib.hid (hV2 hcD)
  have HL2 := Lib.hid hL2
  have HL1 := Lib.hid (HL1.out.below hb3)
  have HBX3 := Lib.hid (HBX2.out.below hb3 HBX2.out.lt)
  have HB3 := Lib.hid (HB2.out.trans (hb3.mono HB2.out.size))
  clear hL2 hV2 hb3 HMB HB2 HBX2
  have hm1 : m1 ≤ 48 := by rw [← HL1.out.1]; exact HV1.out.2.len
  have hm2 : m2 ≤ 48 := by rw [← HL2.out.1]; exact HV2.out.2.len
  have HTR := Lib.hid (traded_any A1 A2 m1 os.length cap1 m2 bs.length cap2 S D w3 HL1.out HL2.out HV1.out.2.qty HV2.out.2.qty hm1 hm2)
  go_wp2_with fail
  refine HTR.out.mono ?_
  rintro e w4 ⟨z, rfl, htr, hb4⟩
  have hz := htr.le HV1.out.2.qty HV2.out.2.qty
  have hz0 := htr.1
  have HT := Lib.hid htr
  have HL1 := Lib.hid (HL1.out.below hb4)
  have HL2 := Lib.hid (HL2.out.below hb4)
  have HBX4 := Lib.hid (HBX3.out.below hb4 HBX3.out.lt)
  have HB4 := Lib.hid (HB3.out.trans (hb4.mono HB3.out.size))
  have HS1 := Lib.hid (cshares_ok true A1 m1 os.length cap1 S z w4 HL1.out HV1.out.2 hz0 hz.1 (fun h0 => by rw [← HL1.out.1]; exact lv_some HV1.out.1 HCO.out.1 h0))
  have HS2 := Lib.hid (fun W (hW : Below w4.heap.size w4 W) => cshares_ok false A2 m2 bs.length cap2 D z W (HL2.out.below hW) HV2.out.2 hz0 hz.2 (fun h0 => by rw [← HL2.out.1]; exact lv_some HV2.out.1 HCO.out.2 h0))
  have HGA := Lib.hid (fun W (hW : Below w4.heap.size w4 W) => gain_ok true false A1 A2 m1 os.length cap1 m2 bs.length cap2 S D z W (HL1.out.below hW) HV1.out.2 (HL2.out.below hW) HV2.out.2 hz0 hz.1 hz.2)
  have HLN := Lib.hid (And.intro HL1.out.1 HL2.out.1)
  clear htr hb4 HTR HB3 HBX3 hz hz0 HL1 HL2
  go_wp2_with fail
  refine HS1.out.mono ?_
  rintro e w5 ⟨g1, rfl, hI1, hgg1, hb5⟩
  have HI1 := Lib.hid hI1
  have HW5 := Lib.hid hb5
  have HG1 := Lib.hid hgg1
  clear hI1 hgg1 hb5 HS1
  go_wp2_with fail
  refine (HS2.out w5 HW5.out).mono ?_
  rintro e w6 ⟨g2, rfl, hI2, hgg2, hb6⟩
  have HI2 := Lib.hid hI2
  have HI1 := Lib.hid (HI1.out.below hb6)
  have HW6 := Lib.hid (HW5.out.trans (hb6.mono HW5.out.size))
  have HG2 := Lib.hid (Nat.le_trans HW5.out.size hgg2)
  clear hI2 hgg2 hb6 HS2 HW5
  go_wp2_with fail
  refine (HGA.out w6 HW6.out).mono ?_
  rintro e w7 ⟨rfl, hb7⟩
  have HI1 := Lib.hid (HI1.out.below hb7)
  have HI2 := Lib.hid (HI2.out.below hb7)
  have HW7 := Lib.hid (HW6.out.trans (hb7.mono HW6.out.size))
  have HB7 := Lib.hid (HB4.out.trans (HW7.out.mono HB4.out.size))
  clear hb7 HGA HW6
  go_wp2_with fail
  refine (HCP.out w7 HB7.out).mono ?_
  rintro e w8 ⟨p, rfl, hpz, hb8⟩
  have hI1 := HI1.out.below hb8
  have hI2 := HI2.out.below hb8
  have hW8 := HW7.out.trans (hb8.mono HW7.out.size)
  have hbx8 := HBX4.out.below hW8 HBX4.out.lt
  have hB8 := HB4.out.trans (hW8.mono HB4.out.size)
  have hv : RunV os bs z p (costI (lvQ D) z m2 - costI (lvQ S) z m1) (shAll S os.length z m1) (shAll D bs.length z m2) S D := by
    obtain ⟨e1, e2⟩ := HLN.out
    exact ⟨HV1.out.1, HV2.out.1, HV1.out.2, HV2.out.2, HT.out, hpz, by rw [e1], by rw [e2], by rw [e1, e2]⟩
  generalize costI (lvQ D) z m2 - costI (lvQ S) z m1 = wf at *
  generalize shAll S os.length z m1 = xs at *
  generalize shAll D bs.length z m2 = ys at *
  obtain ⟨⟨c0, c1, c2, c3, c4⟩, f0, f1, f2, f3, f4⟩ := hbx8.five
  have hset := hbx8.set5 (.int .i64 z) (.int .i64 p) (.int .i64 wf) (.slice (some ⟨g1, 0, none⟩) os.length os.length) (.slice (some ⟨g2, 0, none⟩) bs.length bs.length)
  obtain ⟨⟨d0, d1, d2, d3, d4⟩, -⟩ := hset.five
  have hw4 : w.heap.size < w4.heap.size := HBX4.out.lt
  have hfin : RunP os bs w (.returned (.tuple #[.agg #[.int .i64 z, .int .i64 p, .int .i64 wf, .slice (some ⟨g1, 0, none⟩) os.length os.length, .slice (some ⟨g2, 0, none⟩) bs.length bs.length], .int .i64 0])) (st5 w8 w.heap.size (.int .i64 z) (.int .i64 p) (.int .i64 wf) (.slice (some ⟨g1, 0, none⟩) os.length os.length) (.slice (some ⟨g2, 0, none⟩) bs.length bs.length)) := by
    have k1 := HG1.out
    have k2 := HG2.out
    exact ⟨z, p, wf, xs, ys, S, D, g1, g2, rfl, hv, Blk.far5 hI1 (by omega) _ _ _ _ _, Blk.far5 hI2 (by omega) _ _ _ _ _, by omega, by omega, below_st5 hB8 (Nat.le_refl _) _ _ _ _ _⟩
  have HFIN := Lib.hid hfin
  unfold st5 at d0 d1 d2 d3 d4 HFIN
  clear hfin hset hbx8 hI1 hI2 hW8 hB8 hv hb8 hpz HCP HB7 HW7 HI1 HI2 HBX4 HB4 HT HV1 HV2
  go_wp2
  refine bodyPost_ret (v := .tuple #[.agg #[.int .i64 z, .int .i64 p, .int .i64 wf, .slice (some ⟨g1, 0, none⟩) os.length os.length, .slice (some ⟨g2, 0, none⟩) bs.length bs.length], .int .i64 0]) ?_ rfl HFIN.out
  simp [results, Tryz.results61, go_sem, d0, d1, d2, d3, d4]

end Go.Proofs.YtnjpojpfiijlfaaGreat
