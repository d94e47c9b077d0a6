/-
Run of package clear. The statements of layer 25: curve, some; numbers and Same of reference 25. No statement of the seat is proved here; no conditions beyond those of each theorem.
-/
import Derived.Test.YtjajigkacccdgaaGreatTbBO
import Derived.Test.YtjajigkacccdgaaGreatTbBP
import Derived.Test.YtjajigkacccdgaaGreatTbBQ
import Derived.Test.YtjajigkacccdgaaGreatTbBE
import Derived.Test.YtjajigkacccdgaaGreatTbBL
namespace Go.Proofs.YtjajigkacccdgaaGreat
set_option linter.unusedVariables false
set_option linter.unusedSimpArgs false
open Go.RowKit
open Wd

theorem TrZ.le {S D : List St.Lv} {z : Int} (h : TrZ S D z) (hS : ∀ x ∈ S, 0 < x.2.1 ∧ x.2.1 ≤ 16000000) (hD : ∀ x ∈ D, 0 < x.2.1 ∧ x.2.1 ≤ 16000000) : z ≤ totI S ∧ z ≤ totI D := by
 have hs := (tot_bd S hS).1
 have hd := (tot_bd D hD).1
 constructor
 ·by_cases hz : z ≤ totI S
  ·exact hz
  ·obtain ⟨a, b, h1, _⟩ := h.2.1 (totI S) hs (by omega)
   rw [uP_out hS (Int.le_refl _)] at h1
   simp at h1
 ·by_cases hz : z ≤ totI D
  ·exact hz
  ·obtain ⟨a, b, _, h1, _⟩ := h.2.1 (totI D) hd (by omega)
   rw [uP_out hD (Int.le_refl _)] at h1
   simp at h1
theorem lv_some {up : Bool} {n : Nat} {ls : List (List (Int × Int))} {lv : List St.Lv} (h : St.IsLv up n (St.tri 0 ls) lv) (hk : ∀ l ∈ ls, chk up l = 0) (h0 : ls.length ≠ 0) : lv.length ≠ 0 := fun h9 => by
 have h2 : lv = [] := List.eq_nil_of_length_eq_zero h9
 have h3 := getD_mem (d := ([] : List (Int × Int))) (show 0 < ls.length by omega)
 generalize ls[0]?.getD [] = l0 at *
 have h4 := (chk_ok (hk _ h3)).1
 have h5 := getD_mem (d := ((0, 0) : Int × Int)) (show 0 < l0.length by omega)
 have h6 := (h.2.1 _).2 (St.tri_price.2 ⟨_, h3, _, h5, rfl⟩)
 rw [h2] at h6
 simp at h6

/-- What Run finds. -/
structure RunV (os bs : List (List (Int × Int))) (z p wf : Int) (xs ys : List Int) (S D : List St.Lv) : Prop where
 isS : St.IsLv true os.length (St.tri 0 os) S
 isD : St.IsLv false bs.length (St.tri 0 bs) D
 vS : VL true os.length S
 vD : VL false bs.length D
 tr : TrZ S D z
 pr : PrZ os bs p
 x : xs = shAll S os.length z S.length
 y : ys = shAll D bs.length z D.length
 w : wf = costI (lvQ D) z D.length - costI (lvQ S) z S.length
/-- What Run returns. -/
def RunP (os bs : List (List (Int × Int))) (w : World) (e : Ending) (w' : World) : Prop :=
 ∃ (z p wf : Int) (xs ys : List Int) (S D : List St.Lv) (g1 g2 : Nat), e = .returned (.tuple #[.agg #[.int .i64 z, .int .i64 p, .int .i64 wf, .slice (some ⟨g1, 0, none⟩) os.length os.length, .slice (some ⟨g2, 0, none⟩) bs.length bs.length], .int .i64 0]) ∧ RunV os bs z p wf xs ys S D ∧
  IRow w' g1 xs ∧ IRow w' g2 ys ∧ w.heap.size ≤ g1 ∧ w.heap.size ≤ g2 ∧ Below w.heap.size w w'

theorem Blk.five {w : World} {g : Nat} {t : TypeId} {a b c d e : Value} (h : Blk w g t #[a, b, c, d, e]) : (w.cell? ⟨g, 0, none⟩ = some a ∧ w.cell? ⟨g, 1, none⟩ = some b ∧ w.cell? ⟨g, 2, none⟩ = some c ∧ w.cell? ⟨g, 3, none⟩ = some d ∧ w.cell? ⟨g, 4, none⟩ = some e) ∧
  w.frozen? ⟨g, 0, none⟩ = false ∧ w.frozen? ⟨g, 1, none⟩ = false ∧ w.frozen? ⟨g, 2, none⟩ = false ∧ w.frozen? ⟨g, 3, none⟩ = false ∧ w.frozen? ⟨g, 4, none⟩ = false :=
 ⟨⟨h.cell 0, h.cell 1, h.cell 2, h.cell 3, h.cell 4⟩, h.frozen 0, h.frozen 1, h.frozen 2, h.frozen 3, h.frozen 4⟩
/-- Five cells stored. -/
def st5 (w : World) (g : Nat) (a b c d e : Value) : World := ((((w.setCell ⟨g, 0, none⟩ a).setCell ⟨g, 1, none⟩ b).setCell ⟨g, 2, none⟩ c).setCell ⟨g, 3, none⟩ d).setCell ⟨g, 4, none⟩ e
theorem Blk.set5 {w : World} {g : Nat} {t : TypeId} {a b c d e : Value} (h : Blk w g t #[a, b, c, d, e]) (a' b' c' d' e' : Value) : Blk (st5 w g a' b' c' d' e') g t #[a', b', c', d', e'] := ((((h.set 0 a').set 1 b').set 2 c').set 3 d').set 4 e'
theorem Blk.far5 {w : World} {g g' : Nat} {t : TypeId} {cs : Array Value} (h : Blk w g' t cs) (hne : g' ≠ g) (a b c d e : Value) : Blk (st5 w g a b c d e) g' t cs :=
 ((((h.far (p := ⟨g, 0, none⟩) hne a).far (p := ⟨g, 1, none⟩) hne b).far (p := ⟨g, 2, none⟩) hne c).far (p := ⟨g, 3, none⟩) hne d).far (p := ⟨g, 4, none⟩) hne e
theorem below_st5 {w0 w : World} {B g : Nat} (h : Below B w0 w) (hg : B ≤ g) (a b c d e : Value) : Below B w0 (st5 w g a b c d e) :=
 ((((h.setCell (p := ⟨g, 0, none⟩) hg a).setCell (p := ⟨g, 1, none⟩) hg b).setCell (p := ⟨g, 2, none⟩) hg c).setCell (p := ⟨g, 3, none⟩) hg d).setCell (p := ⟨g, 4, none⟩) hg e

set_option maxRecDepth 100000 in
set_option maxHeartbeats 4000000 in
theorem run_no (A B : Option Addr) (n c m d : Nat) (os bs : List (List (Int × Int))) (w : World) (h : CsAt w A n os) (h' : CsAt w B m bs) (hs : ∀ l ∈ os, l.length ≤ 1000000000000) (ht : ∀ l ∈ bs, l.length ≤ 1000000000000) (hc : ckB os bs ≠ 0) :
  Calls Tryz.prog 48 #[.slice A n c, .slice B m d] w fun e w' => e = .returned (.tuple #[.agg #[.int .i64 0, .int .i64 0, .int .i64 0, .slice none 0 0, .slice none 0 0], .int .i64 (ckB os bs)]) ∧ Below w.heap.size w w' := by
 have HC := Lib.hid (fun W (hW : Below w.heap.size w W) => ccheck_any A B n c m d os bs W (h.below hW) (h'.below hW) hs ht)
 generalize ckB os bs = x at *
 have dx : (x != 0) = true := by simpa using hc
 clear h h' hs ht hc
 go_enter Tryz.func48, Tryz.ntmps48
 go_wp2_with fail
 have hbx := Blk.new w 81 #[.int .i64 0, .int .i64 0, .int .i64 0, .slice none 0 0, .slice none 0 0]
 have hb0 : Below w.heap.size w (w.alloc (.cells #[.int .i64 0, .int .i64 0, .int .i64 0, .slice none 0 0, .slice none 0 0] 81)) := (Below.refl _ _).alloc (Nat.le_refl _) _
 generalize w.alloc (.cells #[.int .i64 0, .int .i64 0, .int .i64 0, .slice none 0 0, .slice none 0 0] 81) = W0 at *
 refine (HC.out W0 hb0).mono ?_
 rintro e w1 ⟨rfl, hb1⟩
 have hbx1 := hbx.below hb1 hbx.lt
 have hB1 := hb0.trans (hb1.mono hb0.size)
 obtain ⟨⟨c0, c1, c2, c3, c4⟩, f0, f1, f2, f3, f4⟩ := hbx1.five
 obtain ⟨⟨d0, d1, d2, d3, d4⟩, -⟩ := (hbx1.set5 (.int .i64 0) (.int .i64 0) (.int .i64 0) (.slice none 0 0) (.slice none 0 0)).five
 have HB2 := Lib.hid (below_st5 hB1 (Nat.le_refl w.heap.size) (.int .i64 0) (.int .i64 0) (.int .i64 0) (.slice none 0 0) (.slice none 0 0))
 unfold st5 at d0 d1 d2 d3 d4 HB2
 clear hbx hb0 hb1 HC hbx1 hB1
 go_wp2
 refine bodyPost_ret (v := .tuple #[.agg #[.int .i64 0, .int .i64 0, .int .i64 0, .slice none 0 0, .slice none 0 0], .int .i64 x]) ?_ rfl ⟨rfl, HB2.out⟩
 simp [results, Tryz.results48, go_sem, d0, d1, d2, d3, d4]

set_option maxRecDepth 100000 in
set_option maxHeartbeats 8000000 in
theorem run_ok (A B : Option Addr) (n c m d : Nat) (os bs : List (List (Int × Int))) (w : World) (h : CsAt w A n os) (h' : CsAt w B m bs) (hc : ckB os bs = 0) :
  Calls Tryz.prog 48 #[.slice A n c, .slice B m d] w (RunP os bs w) := by
 obtain ⟨hl5, hl6, hco, hcb⟩ := ckB_iff.1 hc
 have hs : ∀ l ∈ os, l.length ≤ 1000000000000 := fun l hl => by have := (chk_ok (hco l hl)).2.1; omega
 have ht : ∀ l ∈ bs, l.length ≤ 1000000000000 := fun l hl => by have := (chk_ok (hcb l hl)).2.1; omega
 have hn := h.1
 have hm := h'.1
 subst hn
 subst hm
 have HC := Lib.hid (fun W (hW : Below w.heap.size w W) => ccheck_any A B os.length c bs.length d os bs W (h.below hW) (h'.below hW) hs ht)
 rw [hc] at HC
 have hcS : (ckC true os).2 = 0 := ckC_iff.2 ⟨by omega, hco⟩
 have hcD : (ckC false bs).2 = 0 := ckC_iff.2 ⟨by omega, hcb⟩
 have HMO := Lib.hid (fun W (hW : Below w.heap.size w W) => merge_offers_any A os.length c os W (h.below hW) hs)
 have HMB := Lib.hid (fun W (hW : Below w.heap.size w W) => merge_bids_any B bs.length d bs W (h'.below hW) ht)
 have HCP := Lib.hid (fun W (hW : Below w.heap.size w W) => cprice_any A B os.length c bs.length d os bs W (h.below hW) (h'.below hW) hco hcb hl5 hl6)
 have HCO := Lib.hid (And.intro hco hcb)
 clear h h' hs ht hc
 go_enter Tryz.func48, Tryz.ntmps48
 go_wp2_with fail
 have hbx := Blk.new w 81 #[.int .i64 0, .int .i64 0, .int .i64 0, .slice none 0 0, .slice none 0 0]
 have hb0 : Below w.heap.size w (w.alloc (.cells #[.int .i64 0, .int .i64 0, .int .i64 0, .slice none 0 0, .slice none 0 0] 81)) := (Below.refl _ _).alloc (Nat.le_refl _) _
 generalize w.alloc (.cells #[.int .i64 0, .int .i64 0, .int .i64 0, .slice none 0 0, .slice none 0 0] 81) = W0 at *
 refine (HC.out W0 hb0).mono ?_
 rintro e w1 ⟨rfl, hb1⟩
 have HBX1 := Lib.hid (hbx.below hb1 hbx.lt)
 have HB1 := Lib.hid (hb0.trans (hb1.mono hb0.size))
 clear hbx hb0 hb1 HC
 go_wp2_with fail
 refine (HMO.out w1 HB1.out).mono ?_
 rintro e w2 ⟨A1, m1, cap1, pl1, S, rfl, hL1, hV1, -, hb2⟩
 rw [hcS]
 have HV1 := Lib.hid (hV1 hcS)
 have HL1 := Lib.hid hL1
 have HBX2 := Lib.hid (HBX1.out.below hb2 HBX1.out.lt)
 have HB2 := Lib.hid (HB1.out.trans (hb2.mono HB1.out.size))
 clear hL1 hV1 hb2 HMO HB1 HBX1
 go_wp2_with fail
 refine (HMB.out w2 HB2.out).mono ?_
 rintro e w3 ⟨A2, m2, cap2, pl2, D, rfl, hL2, hV2, -, hb3⟩
 rw [hcD]
 have HV2 := Lib.hid (hV2 hcD)
 have HL2 := Lib.hid hL2
 have HL1 := Lib.hid (HL1.out.below hb3)
 have HBX3 := Lib.hid (HBX2.out.below hb3 HBX2.out.lt)
 have HB3 := Lib.hid (HB2.out.trans (hb3.mono HB2.out.size))
 clear hL2 hV2 hb3 HMB HB2 HBX2
 have hm1 : m1 ≤ 48 := by rw [← HL1.out.1]; exact HV1.out.2.len
 have hm2 : m2 ≤ 48 := by rw [← HL2.out.1]; exact HV2.out.2.len
 have HTR := Lib.hid (traded_any A1 A2 m1 os.length cap1 m2 bs.length cap2 S D w3 HL1.out HL2.out HV1.out.2.qty HV2.out.2.qty hm1 hm2)
 go_wp2_with fail
 refine HTR.out.mono ?_
 rintro e w4 ⟨z, rfl, htr, hb4⟩
 have hz := htr.le HV1.out.2.qty HV2.out.2.qty
 have hz0 := htr.1
 have HT := Lib.hid htr
 have HL1 := Lib.hid (HL1.out.below hb4)
 have HL2 := Lib.hid (HL2.out.below hb4)
 have HBX4 := Lib.hid (HBX3.out.below hb4 HBX3.out.lt)
 have HB4 := Lib.hid (HB3.out.trans (hb4.mono HB3.out.size))
 have HS1 := Lib.hid (cshares_ok true A1 m1 os.length cap1 S z w4 HL1.out HV1.out.2 hz0 hz.1 (fun h0 => by rw [← HL1.out.1]; exact lv_some HV1.out.1 HCO.out.1 h0))
 have HS2 := Lib.hid (fun W (hW : Below w4.heap.size w4 W) => cshares_ok false A2 m2 bs.length cap2 D z W (HL2.out.below hW) HV2.out.2 hz0 hz.2 (fun h0 => by rw [← HL2.out.1]; exact lv_some HV2.out.1 HCO.out.2 h0))
 have HGA := Lib.hid (fun W (hW : Below w4.heap.size w4 W) => gain_ok true false A1 A2 m1 os.length cap1 m2 bs.length cap2 S D z W (HL1.out.below hW) HV1.out.2 (HL2.out.below hW) HV2.out.2 hz0 hz.1 hz.2)
 have HLN := Lib.hid (And.intro HL1.out.1 HL2.out.1)
 clear htr hb4 HTR HB3 HBX3 hz hz0 HL1 HL2
 go_wp2_with fail
 refine HS1.out.mono ?_
 rintro e w5 ⟨g1, rfl, hI1, hgg1, hb5⟩
 have HI1 := Lib.hid hI1
 have HW5 := Lib.hid hb5
 have HG1 := Lib.hid hgg1
 clear hI1 hgg1 hb5 HS1
 go_wp2_with fail
 refine (HS2.out w5 HW5.out).mono ?_
 rintro e w6 ⟨g2, rfl, hI2, hgg2, hb6⟩
 have HI2 := Lib.hid hI2
 have HI1 := Lib.hid (HI1.out.below hb6)
 have HW6 := Lib.hid (HW5.out.trans (hb6.mono HW5.out.size))
 have HG2 := Lib.hid (Nat.le_trans HW5.out.size hgg2)
 clear hI2 hgg2 hb6 HS2 HW5
 go_wp2_with fail
 refine (HGA.out w6 HW6.out).mono ?_
 rintro e w7 ⟨rfl, hb7⟩
 have HI1 := Lib.hid (HI1.out.below hb7)
 have HI2 := Lib.hid (HI2.out.below hb7)
 have HW7 := Lib.hid (HW6.out.trans (hb7.mono HW6.out.size))
 have HB7 := Lib.hid (HB4.out.trans (HW7.out.mono HB4.out.size))
 clear hb7 HGA HW6
 go_wp2_with fail
 refine (HCP.out w7 HB7.out).mono ?_
 rintro e w8 ⟨p, rfl, hpz, hb8⟩
 have hI1 := HI1.out.below hb8
 have hI2 := HI2.out.below hb8
 have hW8 := HW7.out.trans (hb8.mono HW7.out.size)
 have hbx8 := HBX4.out.below hW8 HBX4.out.lt
 have hB8 := HB4.out.trans (hW8.mono HB4.out.size)
 have hv : RunV os bs z p (costI (lvQ D) z m2 - costI (lvQ S) z m1) (shAll S os.length z m1) (shAll D bs.length z m2) S D := by
  obtain ⟨e1, e2⟩ := HLN.out
  exact ⟨HV1.out.1, HV2.out.1, HV1.out.2, HV2.out.2, HT.out, hpz, by rw [e1], by rw [e2], by rw [e1, e2]⟩
 generalize costI (lvQ D) z m2 - costI (lvQ S) z m1 = wf at *
 generalize shAll S os.length z m1 = xs at *
 generalize shAll D bs.length z m2 = ys at *
 obtain ⟨⟨c0, c1, c2, c3, c4⟩, f0, f1, f2, f3, f4⟩ := hbx8.five
 have hset := hbx8.set5 (.int .i64 z) (.int .i64 p) (.int .i64 wf) (.slice (some ⟨g1, 0, none⟩) os.length os.length) (.slice (some ⟨g2, 0, none⟩) bs.length bs.length)
 obtain ⟨⟨d0, d1, d2, d3, d4⟩, -⟩ := hset.five
 have hw4 : w.heap.size < w4.heap.size := HBX4.out.lt
 have hfin : RunP os bs w (.returned (.tuple #[.agg #[.int .i64 z, .int .i64 p, .int .i64 wf, .slice (some ⟨g1, 0, none⟩) os.length os.length, .slice (some ⟨g2, 0, none⟩) bs.length bs.length], .int .i64 0])) (st5 w8 w.heap.size (.int .i64 z) (.int .i64 p) (.int .i64 wf) (.slice (some ⟨g1, 0, none⟩) os.length os.length) (.slice (some ⟨g2, 0, none⟩) bs.length bs.length)) := by
  have k1 := HG1.out
  have k2 := HG2.out
  exact ⟨z, p, wf, xs, ys, S, D, g1, g2, rfl, hv, Blk.far5 hI1 (by omega) _ _ _ _ _, Blk.far5 hI2 (by omega) _ _ _ _ _, by omega, by omega, below_st5 hB8 (Nat.le_refl _) _ _ _ _ _⟩
 have HFIN := Lib.hid hfin
 unfold st5 at d0 d1 d2 d3 d4 HFIN
 clear hfin hset hbx8 hI1 hI2 hW8 hB8 hv hb8 hpz HCP HB7 HW7 HI1 HI2 HBX4 HB4 HT HV1 HV2
 go_wp2
 refine bodyPost_ret (v := .tuple #[.agg #[.int .i64 z, .int .i64 p, .int .i64 wf, .slice (some ⟨g1, 0, none⟩) os.length os.length, .slice (some ⟨g2, 0, none⟩) bs.length bs.length], .int .i64 0]) ?_ rfl HFIN.out
 simp [results, Tryz.results48, go_sem, d0, d1, d2, d3, d4]

end Go.Proofs.YtjajigkacccdgaaGreat

namespace Go.Proofs.YtjajigkacccdgaaGreat
set_option linter.unusedVariables false
set_option linter.unusedSimpArgs false
open Go.RowKit
open Wd

set_option maxRecDepth 100000 in
set_option maxHeartbeats 4000000 in
theorem curve25_any (A : Option Addr) (n c : Nat) (xs : List Int) (w : World) (h : IsAt w A (2 * n) xs) (hn : n ≤ 1000000) (hf : ∀ i : Nat, Fits (xs[i]?.getD 0)) :
  Calls Tryz.prog 60 #[.slice A ((2 * n : Nat)) c] w fun e w' => ∃ A1 c1, e = .returned (.slice A1 n c1) ∧ StAt w' A1 n (prs xs n) ∧ Below w.heap.size w w' := by
 have HX := Lib.hid h
 have HFT := Lib.hid hf
 obtain ⟨ii, hii, hz0, hz1, hz2⟩ := info_parts info_step
 have HI := Lib.hid hii
 have HZ0 := Lib.hid hz0
 have HZ1 := Lib.hid hz1
 have HZ2 := Lib.hid hz2
 generalize hN : 2 * n = N at *
 have HN := Lib.hid hN
 clear h hf hii hz0 hz1 hz2 hN
 go_enter Tryz.func60, Tryz.ntmps60
 go_wp2_with fail
 go_loopw [3, 4] (fun th t wr => ∃ (i k : Nat) (Ah : Option Addr) (ch : Nat), i ≤ n ∧ t = .int .i64 (k : Int) ∧ th = .slice Ah i ch ∧ Hid (k = 2 * i) ∧ Hid (Below w.heap.size w wr ∧ Own w.heap.size 107 2 wr Ah i ch (stCells (prs xs i)))) (fun _ t _ => N + 2 - (intOf t).toNat)
 case atStart => exact ⟨0, 0, none, 0, Nat.zero_le _, rfl, rfl, rfl, Below.refl _ _, Own.nil _ _ _ _⟩
 case round =>
  obtain ⟨i, k, Ah, ch, hi, rfl, rfl, hK, hR⟩ := hrel
  have hki := hK.out
  have hN := HN.out
  have e0 : IntKind.i64.wrap ((k : Int) + 1) = (k : Int) + 1 := IntWalk.i64_in _ (by omega)
  have e1 : IntKind.i64.wrap ((k : Int) + 2) = (k : Int) + 2 := IntWalk.i64_in _ (by omega)
  by_cases hlt : i < n
  ·obtain ⟨hB, hO⟩ := hR.out
   obtain ⟨g, o, rfl, hb, hc⟩ := HX.out.2 (by omega)
   have hc0 := hc k (by omega)
   have hc1 := hc (k + 1) (by omega)
   have hsn : prs xs (i + 1) = prs xs i ++ [(xs[k]?.getD 0, xs[k + 1]?.getD 0)] := by rw [hki]; rfl
   have hlt1 : ((k : Int) + 1 < (N : Int)) := by omega
   have hlt2 : ((k : Int) < (N : Int)) := by omega
   have hlt3 : ((0 : Int) ≤ (k : Int)) := by omega
   have hlt4 : ((0 : Int) ≤ (k : Int) + 1) := by omega
   have d1 : decide ((k : Int) + 1 < (N : Int)) = true := decide_eq_true hlt1
   have tn2 : ((k : Int) + 1).toNat = k + 1 := by omega
   generalize xs[k]?.getD 0 = a at *
   generalize xs[k + 1]?.getD 0 = b at *
   have hS : ∀ w', Below w.heap.size w w' → (w'.cell? ⟨g, o + k, none⟩ = some (.int .i64 a) ∧ w'.cell? ⟨g, o + (k + 1), none⟩ = some (.int .i64 b)) ∧ Below w.heap.size w w' := fun w' hk => ⟨⟨(hk.cell (p := ⟨g, _, none⟩) hb).trans hc0, (hk.cell (p := ⟨g, _, none⟩) hb).trans hc1⟩, hk⟩
   have HS := Lib.hid hS
   have HSN := Lib.hid hsn
   have HNK := Lib.hid (show N = 2 * n ∧ k = 2 * i from ⟨hN.symm, hki⟩)
   have q0 := hB
   have k1 := (Kp.refl wr).alloc (.cells #[.int .i64 a, .int .i64 b] 107)
   have q1 : Below w.heap.size w (wr.alloc (.cells #[.int .i64 a, .int .i64 b] 107)) := hB.trans (Below.mono k1 hB.size)
   have o1 := hO.keep k1
   have m1 := Blk.new wr 107 #[.int .i64 a, .int .i64 b]
   have hin : i ≤ 1000000 := by omega
   clear hsn hc hc0 hc1 hR hN hki hK hS
   go_wp2_with fail
   go_region_held3 (fun w' => (w'.cell? ⟨g, o + k, none⟩ = some (.int .i64 a) ∧ w'.cell? ⟨g, o + (k + 1), none⟩ = some (.int .i64 b)) ∧ Below w.heap.size w w')
    (first | exact HS.out _ g1 | exact HS.out _ q0.drew | exact HS.out _ q1.drew)
    (first
     | (refine step_append_my (base := w.heap.size) (e := 107) (size := 2) (bytes := 16) (by rfl) (.tmp 12) (.tmp 23) 29 rfl Tryz.underlying29 HI.out HZ0.out HZ1.out HZ2.out rfl (by decide) (xs := stCells (prs xs i)) (news := [.int .i64 a, .int .i64 b]) rfl (by exact o1) rfl (by exact Blk.src m1 rfl (stCells_one [(a, b)])) (by simp only [maxLen]; omega) (by omega) (Below.size (w := w) (B := w.heap.size) (by exact q1.drew)) ?_
        intro B1 cb1 w1 hO1 hb1 hk1
        have g1 : Below w.heap.size w w1 := Below.trans (by exact q1.drew) hb1
        clear hb1 hk1))
   have hfin : Below w.heap.size w w1 ∧ Own w.heap.size 107 2 w1 B1 (i + 1) cb1 (stCells (prs xs (i + 1))) := by
    refine ⟨g1, ?_⟩
    rw [HSN.out, stCells_append]
    exact hO1
   have HF := Lib.hid hfin
   clear hfin g1 hO1
   go_wp2
   go_roundw
   case rel => exact ⟨i + 1, k + 2, B1, cb1, by omega, by go_num, rfl, (by have := HNK.out; omega : k + 2 = 2 * (i + 1)), HF.out⟩
   case measure =>
    have := HNK.out
    simp [intOf]
    omega
  ·obtain rfl : i = n := by omega
   have d1 : decide ((k : Int) + 1 < (N : Int)) = false := decide_eq_false (by omega)
   have hfin : StAt wr Ah i (prs xs i) ∧ Below w.heap.size w wr := ⟨hR.out.2.steps (prs_fits HFT.out _), hR.out.1⟩
   have HF := Lib.hid hfin
   clear hfin hR hN hki
   go_wp2
   go_ret
   exact ⟨Ah, ch, rfl, HF.out⟩


theorem some25 (A : Option Addr) (n c : Nat) (w : World) : Calls Tryz.prog 61 #[.slice A n c] w fun e w' => e = .returned (.slice A n c) ∧ Below w.heap.size w w' := by
 go_enter Tryz.func61, Tryz.ntmps61
 go_wp2
 go_ret
 exact ⟨rfl, Below.refl _ _⟩

set_option maxRecDepth 100000 in
set_option maxHeartbeats 4000000 in
theorem numbers_yes (A B : Option Addr) (n c d : Nat) (xs : List Int) (w : World) (h : IsAt w A n xs) (h' : IsAt w B n xs) (hn : n ≤ 1000000) :
  Calls Tryz.prog 109 #[.slice A n c, .slice B n d] w fun e w' => e = .returned (.bool true) ∧ Below w.heap.size w w' := by
 have HX := Lib.hid h
 have HY := Lib.hid h'
 have d0 : ((n : Int) != (n : Int)) = false := by simp
 clear h h'
 go_enter Tryz.func109, Tryz.ntmps109
 go_wp2_with fail
 go_loopw [5] (fun t wr => ∃ k : Nat, k ≤ n ∧ t = .int .i64 k ∧ Hid (Below w.heap.size w wr)) (fun t _ => n - (intOf t).toNat)
 case atStart => exact ⟨0, Nat.zero_le _, rfl, Below.refl _ _⟩
 case round =>
  obtain ⟨k, hk, rfl, hB⟩ := hrel
  by_cases hlt : k < n
  ·obtain ⟨b1, o1, rfl, hb1, hc1⟩ := HX.out.2 (by omega)
   obtain ⟨b2, o2, rfl, hb2, hc2⟩ := HY.out.2 (by omega)
   have c1 := (hB.out.cell (p := ⟨b1, o1 + k, none⟩) hb1).trans (hc1 k hlt)
   have c2 := (hB.out.cell (p := ⟨b2, o2 + k, none⟩) hb2).trans (hc2 k hlt)
   generalize xs[k]?.getD 0 = x at *
   have k1 : (0 : Int) ≤ (k : Int) := by omega
   have k2 : (k : Int) < (n : Int) := by omega
   clear hc1 hc2
   go_wp2_with fail
   go_quiet (fail)
   go_wp2
   go_roundw
   case rel => exact ⟨k + 1, by omega, by go_num, below_drewN hB.out _⟩
   case measure => simp [intOf]; omega
  ·obtain rfl : k = n := by omega
   go_wp2
   go_ret
   exact ⟨rfl, hB.out⟩

set_option maxRecDepth 100000 in
set_option maxHeartbeats 4000000 in
theorem same25_yes (A1 A2 B1 B2 : Option Addr) (n c1 c2 m d1 d2 : Nat) (z p wf : Int) (xs ys : List Int) (w : World) (h1 : IsAt w A1 n xs) (h2 : IsAt w A2 n xs) (g1 : IsAt w B1 m ys) (g2 : IsAt w B2 m ys) (hn : n ≤ 1000000) (hm : m ≤ 1000000) :
  Calls Tryz.prog 49 #[.agg #[.int .i64 z, .int .i64 p, .int .i64 wf, .slice A1 n c1, .slice B1 m d1], .agg #[.int .i64 z, .int .i64 p, .int .i64 wf, .slice A2 n c2, .slice B2 m d2]] w fun e w' => e = .returned (.bool true) ∧ Below w.heap.size w w' := by
 have HN1 := Lib.hid (fun W (hW : Below w.heap.size w W) => numbers_yes A1 A2 n c1 c2 xs W (h1.below hW) (h2.below hW) hn)
 have HN2 := Lib.hid (fun W (hW : Below w.heap.size w W) => numbers_yes B1 B2 m d1 d2 ys W (g1.below hW) (g2.below hW) hm)
 clear h1 h2 g1 g2
 go_enter Tryz.func49, Tryz.ntmps49
 go_wp2_with fail
 have b1 := (Blk.new w 78 #[.int .i64 z, .int .i64 p, .int .i64 wf, .slice A1 n c1, .slice B1 m d1]).alloc (.cells #[.int .i64 z, .int .i64 p, .int .i64 wf, .slice A2 n c2, .slice B2 m d2] 78)
 have b2 := Blk.new1 w (.cells #[.int .i64 z, .int .i64 p, .int .i64 wf, .slice A1 n c1, .slice B1 m d1] 78) 78 #[.int .i64 z, .int .i64 p, .int .i64 wf, .slice A2 n c2, .slice B2 m d2]
 have hb0 : Below w.heap.size w ((w.alloc (.cells #[.int .i64 z, .int .i64 p, .int .i64 wf, .slice A1 n c1, .slice B1 m d1] 78)).alloc (.cells #[.int .i64 z, .int .i64 p, .int .i64 wf, .slice A2 n c2, .slice B2 m d2] 78)) := ((Below.refl _ _).alloc (Nat.le_refl _) _).alloc (by simp only [World.size_alloc]; omega) _
 generalize (w.alloc (.cells #[.int .i64 z, .int .i64 p, .int .i64 wf, .slice A1 n c1, .slice B1 m d1] 78)).alloc (.cells #[.int .i64 z, .int .i64 p, .int .i64 wf, .slice A2 n c2, .slice B2 m d2] 78) = W0 at *
 refine (HN1.out W0 hb0).mono ?_
 rintro e w1 ⟨rfl, hb1⟩
 have k1 := (b1.below hb1 b1.lt).cell 4
 have k2 := (b2.below hb1 b2.lt).cell 4
 simp at k1 k2
 have HB1 := Lib.hid (hb0.trans (hb1.mono hb0.size))
 clear b1 b2 hb0 hb1 HN1
 go_wp2_with fail
 refine (HN2.out w1 HB1.out).mono ?_
 rintro e w2 ⟨rfl, hb2⟩
 have HB2 := Lib.hid (HB1.out.trans (hb2.mono HB1.out.size))
 clear hb2 k1 k2
 go_wp2
 go_ret
 exact ⟨rfl, HB2.out⟩

theorem PrZ.only {os bs : List (List (Int × Int))} {p p' : Int} (h : PrZ os bs p) (h' : PrZ os bs p') : p = p' := by
 have key : ∀ {p p' : Int}, (absI p ∈ dists os bs ∧ balB os bs ((p : Int) : Rat) = true) → (∀ d ∈ dists os bs, d < absI p' → balB os bs ((d : Int) : Rat) = false ∧ balB os bs ((-d : Int) : Rat) = false) → ¬ absI p < absI p' := by
  intro p p' h1 h2 hlt
  obtain ⟨e1, e2⟩ := h2 _ h1.1 hlt
  have h3 := h1.2
  unfold absI at e1 e2
  split at e1
  ·rename_i hp
   rw [if_pos hp, Int.neg_neg] at e2
   rw [h3] at e2
   simp at e2
  ·rw [h3] at e1
   simp at e1
 have none' : ∀ {p : Int}, (absI p ∈ dists os bs ∧ balB os bs ((p : Int) : Rat) = true) → (∀ d ∈ dists os bs, balB os bs ((d : Int) : Rat) = false ∧ balB os bs ((-d : Int) : Rat) = false) → False := by
  intro p h1 h2
  obtain ⟨e1, e2⟩ := h2 _ h1.1
  have h3 := h1.2
  unfold absI at e1 e2
  split at e1
  ·rename_i hp
   rw [if_pos hp, Int.neg_neg] at e2
   rw [h3] at e2
   simp at e2
  ·rw [h3] at e1
   simp at e1
 rcases h with ⟨a1, a2, a3, a4⟩ | ⟨a1, a2⟩
 ·rcases h' with ⟨b1, b2, b3, b4⟩ | ⟨b1, b2⟩
  ·have k1 := key ⟨a1, a2⟩ b3
   have k2 := key ⟨b1, b2⟩ a3
   by_cases hp : p < 0
   ·by_cases hp' : p' < 0
    ·unfold absI at k1 k2
     rw [if_pos hp, if_pos hp'] at k1 k2
     omega
    ·unfold absI at k1 k2
     rw [if_pos hp, if_neg hp'] at k1 k2
     have e : p' = -p := by omega
     rw [e, a4 hp] at b2
     simp at b2
   ·by_cases hp' : p' < 0
    ·unfold absI at k1 k2
     rw [if_neg hp, if_pos hp'] at k1 k2
     have e : p = -p' := by omega
     rw [e, b4 hp'] at a2
     simp at a2
    ·unfold absI at k1 k2
     rw [if_neg hp, if_neg hp'] at k1 k2
     omega
  ·exact (none' ⟨a1, a2⟩ b2).elim
 ·rcases h' with ⟨b1, b2, b3, b4⟩ | ⟨b1, b2⟩
  ·exact (none' ⟨b1, b2⟩ a2).elim
  ·rw [a1, b1]
theorem RunV.only {os bs : List (List (Int × Int))} {z p wf z' p' wf' : Int} {xs ys xs' ys' : List Int} {S D S' D' : List St.Lv} (h : RunV os bs z p wf xs ys S D) (h' : RunV os bs z' p' wf' xs' ys' S' D') : z = z' ∧ p = p' ∧ wf = wf' ∧ xs = xs' ∧ ys = ys' := by
 have e1 := h.isS.only h'.isS
 have e2 := h.isD.only h'.isD
 subst e1
 subst e2
 have e3 := h.tr.only h'.tr
 subst e3
 exact ⟨rfl, h.pr.only h'.pr, by rw [h.w, h'.w], by rw [h.x, h'.x], by rw [h.y, h'.y]⟩

set_option maxRecDepth 100000 in
set_option maxHeartbeats 4000000 in
theorem found_yes (A B A5 A6 : Option Addr) (n c m d c5 c6 : Nat) (os bs : List (List (Int × Int))) (z p wf : Int) (xs ys : List Int) (S D : List St.Lv) (w : World) (h : CsAt w A n os) (h' : CsAt w B m bs) (h5 : IsAt w A5 n xs) (h6 : IsAt w A6 m ys) (hc : ckB os bs = 0) (hr : RunV os bs z p wf xs ys S D) :
  Calls Tryz.prog 63 #[.slice A n c, .slice B m d, .int .i64 z, .int .i64 p, .int .i64 wf, .slice A5 n c5, .slice A6 m c6] w fun e w' => e = .returned (.bool true) ∧ Below w.heap.size w w' := by
 have HRU := Lib.hid (run_ok A B n c m d os bs w h h' hc)
 have HRV := Lib.hid hr
 have hk := ckB_iff.1 hc
 have hn := h.1
 have hm := h'.1
 have HSM := Lib.hid (fun W g1 g2 (hW : Below w.heap.size w W) (i1 : IRow W g1 xs) (i2 : IRow W g2 ys) => same25_yes (some ⟨g1, 0, none⟩) A5 (some ⟨g2, 0, none⟩) A6 n n c5 m m c6 z p wf xs ys W (i1.at h5.1) (h5.below hW) (i2.at h6.1) (h6.below hW) (by omega) (by omega))
 subst hn
 subst hm
 clear h h' h5 h6 hc hr
 go_enter Tryz.func63, Tryz.ntmps63
 go_wp2_with fail
 refine HRU.out.mono ?_
 rintro e w1 ⟨z', p', wf', xs', ys', S', D', g1, g2, rfl, hv, hI1, hI2, -, -, hb1⟩
 obtain ⟨rfl, rfl, rfl, rfl, rfl⟩ := hv.only HRV.out
 have kx := (Kp.refl w1).alloc (.cells #[.int .i64 z', .int .i64 p', .int .i64 wf', .slice (some ⟨g1, 0, none⟩) os.length os.length, .slice (some ⟨g2, 0, none⟩) bs.length bs.length] 81)
 have HB2 := Lib.hid (hb1.trans (Below.mono kx hb1.size))
 have HS := Lib.hid (HSM.out _ g1 g2 HB2.out (hI1.below kx) (hI2.below kx))
 clear hv hI1 hI2 hb1 kx HSM HRU HRV
 go_wp2_with fail
 refine HS.out.mono ?_
 rintro e w2 ⟨rfl, hb2⟩
 have HB3 := Lib.hid (HB2.out.trans (hb2.mono HB2.out.size))
 clear hb2
 go_wp2
 go_ret
 exact ⟨rfl, HB3.out⟩

end Go.Proofs.YtjajigkacccdgaaGreat
