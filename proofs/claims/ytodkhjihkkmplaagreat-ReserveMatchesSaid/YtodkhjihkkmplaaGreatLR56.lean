/-
ReserveMatches: its walk. ReserveMatches: for any units, selection, production and need Fill returns what the reference returns, arguments stay, and results may be overwritten; for every input the law returns true and the arguments read as before. No condition beyond the statement's own. No statement of the seat is proved here; no conditions beyond those of each theorem.
-/
import Derived.Test.YtodkhjihkkmplaaGreatLQC
import Derived.Test.YtodkhjihkkmplaaGreatLRt7
import Derived.Test.YtodkhjihkkmplaaGreatLRd4
import Derived.Test.YtodkhjihkkmplaaGreatLFf
import Derived.Test.YtodkhjihkkmplaaGreatLRr0
namespace Go.Proofs.YtodkhjihkkmplaaGreat
set_option linter.unusedVariables false
set_option linter.unusedSimpArgs false
open Go.RowKit
open Wd

theorem lv_size {k s : Nat} {q : Rat} (h : Lv k q) (hs : 7 * 3 ^ k ≤ s) : Ls s q := Ls.mono (a := 7 * 3 ^ k) h hs
theorem lv_lens {k : Nat} {q : Rat} (h : Lv k q) : (digs q.num.natAbs).length ≤ 7 * 3 ^ k ∧ (digs q.den).length ≤ 7 * 3 ^ k := ⟨digs_len_le.2 h.1, digs_len_le.2 h.2⟩
theorem rq_eq {w w' : World} {q : Rat} {A A' B B' : Option Addr} {k c k' c' j d j' d' : Nat} (h : RQ w q A k c A' k' c') (h' : RQ w' q B j d B' j' d') : j = k ∧ j' = k' := ⟨h'.2.2.1.1.symm.trans h.2.2.1.1, h'.2.2.2.1.symm.trans h.2.2.2.1⟩
set_option maxHeartbeats 1000000 in
theorem spoil_nil (base top : Nat) (A : Option Addr) (c : Nat) (w : World) : Calls Tryz.prog 16 #[.slice A 0 c] w fun e w' => e = .returned (.tuple #[]) ∧ Sp base top w w' := by
 go_enter Tryz.func16, Tryz.ntmps16
 go_wp2_with fail
 go_loopw [2] (fun t wr => t = .int .i64 0 ∧ Hid (Sp base top w wr)) (fun _ _ => 0)
 case atStart => exact ⟨rfl, Lib.hid (Sp.refl _ _ _)⟩
 case round =>
  obtain ⟨rfl, hX⟩ := hrel
  go_wp2
  refine bodyPost_end (v := .tuple #[]) ?_ rfl ⟨rfl, hX.out⟩
  simp [results, Tryz.results16]
/-- What the reference hands back. -/
def RefM (n0 : Nat) (ms : List Rat) (rs : Rat) (pr x : Int) (w : World) (e : Ending) (w' : World) : Prop :=
 ∃ B c2 A k c A' k' c', e = .returned (.tuple #[.slice B n0 c2, .int .i64 pr, .agg #[.bool (decide (rs.num < 0)), .slice A k c, .bool false, .slice A' k' c'], .int .i64 x]) ∧ QsAt w' B n0 ms ∧ RQ w' rs A k c A' k' c' ∧ Below w.heap.size w w'
/-- What the program hands back. -/
def FillM (n0 : Nat) (ms : List Rat) (rs : Rat) (pr x : Int) (w : World) (e : Ending) (w' : World) : Prop :=
 ∃ B c2 A k c A' k' c', e = .returned (.tuple #[.slice B n0 c2, .int .i64 pr, .agg #[.bool (decide (rs.num < 0)), .slice A k c, .bool false, .slice A' k' c'], .int .i64 x]) ∧ QsAt w' B n0 ms ∧ RQ w' rs A k c A' k' c' ∧
  (n0 = 0 ∨ ∃ g, B = some ⟨g, 0, none⟩ ∧ FrRow w.heap.size w' g n0 ∧ w.heap.size ≤ g) ∧ Wr w.heap.size w'.heap.size w' A k ∧ Wr w.heap.size w'.heap.size w' A' k' ∧ Below w.heap.size w w'
theorem both_fill (A B C : Option Addr) (n c m d p pc : Nat) (us : List Un) (bs : List Bool) (qs : List Rat) (need : Int) (w : World) (h : UsAt w A n us) (h' : BsAt w B m bs) (hg : GsAt 0 w C p qs) (hn : n ≤ 30) (hm : m ≤ 30) (hp : p ≤ 30) :
  ∃ n0 ms rs pr x, n0 ≤ 30 ∧ Ls 6000 rs ∧ (∀ q ∈ ms, (digs q.num.natAbs).length ≤ 1000000 ∧ (denW q.den).length ≤ 1000000) ∧
   (∀ W, Below w.heap.size w W → Calls Tryz.prog 12 #[.slice A n c, .slice B m d, .slice C p pc, .int .i64 need] W (RefM n0 ms rs pr x W)) ∧
   (∀ W, Below w.heap.size w W → Calls Tryz.prog 13 #[.slice A n c, .slice B m d, .slice C p pc, .int .i64 need] W (FillM n0 ms rs pr x W)) := by
 by_cases hr : rchk us bs qs need = 0
 ·obtain ⟨ord, ho⟩ := Rv.ord_ex (spF us) n
  have hln : us.length = n := h.1
  have hok := rchk_ok hr
  obtain ⟨k1, k2, k3⟩ := echk_ok hok.1
  have hlr : ∀ i, i < us.length → Lv 1 (rmR us bs qs i) := fun i hi => by
   obtain ⟨_, _, _, _, hc⟩ := hg.2 (by have := hg.1; omega)
   obtain ⟨_, _, _, _, _, _, _, _, _, _, _, _, hq⟩ := hc i (by have := hg.1; omega)
   have hm := k3 _ (getD_mem (d := U0) (l := us) (k := i) (by omega))
   have := uchk_ok hm
   unfold rmR roomV
   split
   ·exact (lv_int 0 (by omega)).sub hq.lv
   ·exact lv_int 1 (by decide)
  have hol : ord.length = n := by rw [ho.1.length_eq, List.length_range]
  have hE : FiS us bs qs need ord n = fillV us bs qs need ord := by unfold FiS fillV; rw [← hol, List.take_length]
  obtain ⟨hl1, hl2⟩ := fis_lv hr (by rw [hln]; exact ho) hlr n (by omega)
  rw [hE] at hl1 hl2
  have hlv : (∀ j, Lv 6 ((fillV us bs qs need ord).tk[j]?.getD 0)) ∧ Lv 6 (fillV us bs qs need ord).rest := ⟨fun j => (hl2 j).mono (by omega), hl1.mono (by omega)⟩
  refine ⟨n, (fillV us bs qs need ord).tk, (fillV us bs qs need ord).rest, (fillV us bs qs need ord).price, 0, hn, ?_, ?_, fun W hW => ?_, fun W hW => ?_⟩
  ·exact lv_size (k := 6) hlv.2 (by decide)
  ·intro q hq
   obtain ⟨j, hj, rfl⟩ := List.getElem_of_mem hq
   have hl := hlv.1 j
   rw [List.getElem?_eq_getElem hj, Option.getD_some] at hl
   have h9 : 7 * 3 ^ 6 = 5103 := by decide
   obtain ⟨h1, h2⟩ := lv_lens hl
   refine ⟨by omega, ?_⟩
   unfold denW
   split
   ·exact Nat.zero_le _
   ·omega
  ·refine (rfill30_any A B C n c m d p pc us bs qs need W (h.below hW) (h'.below hW) (hg.below hW)).mono ?_
   rintro e w' ⟨TA, tn, tc, price, s, A1, k1, c1, A2, k2, c2, rfl, hb, -, hok⟩
   obtain ⟨rfl, rfl, rfl, hq1, hq2⟩ := hok hr ord ho
   rw [hr]
   exact ⟨TA, tc, A1, k1, c1, A2, k2, c2, rfl, hq1, hq2, hb⟩
  ·refine (fill_fr 0 (by omega) A B C n c m d p pc us bs qs need W (h.below hW) (h'.below hW) (hg.below hW) (by omega) (by omega) (by omega) hr).mono ?_
   rintro e w' ⟨ord', g, A1, k1, c1, A2, k2, c2, ho', rfl, hq1, hq2, hg1, hfr, hw1, hw2, -, -, hb⟩
   obtain rfl := ho.uniq ho'
   exact ⟨_, n, A1, k1, c1, A2, k2, c2, rfl, hq1.at, hq2, .inr ⟨g, rfl, hfr, hg1⟩, hw1, hw2, hb⟩
 ·refine ⟨0, [], 0, 0, rchk us bs qs need, by omega, (show Ls 6000 ((0 : Int) : Rat) from ls_int (by omega) (by decide)), (fun q (hq : q ∈ ([] : List Rat)) => absurd hq List.not_mem_nil), fun W hW => ?_, fun W hW => ?_⟩
  ·refine (rfill30_any A B C n c m d p pc us bs qs need W (h.below hW) (h'.below hW) (hg.below hW)).mono ?_
   rintro e w' ⟨TA, tn, tc, price, s, A1, k1, c1, A2, k2, c2, rfl, hb, hno, -⟩
   obtain ⟨rfl, rfl, rfl, rfl, rfl, h1, h2⟩ := hno hr
   refine ⟨TA, tc, A1, 0, c1, A2, 0, c2, rfl, ⟨rfl, fun h0 => absurd rfl h0⟩, ⟨h1, h2, ?_, ?_⟩, hb⟩
   ·rw [show (0 : Rat).num.natAbs = 0 from rfl, digs_zero]; exact Wat.nil
   ·exact Wat.nil
  ·refine (fill_no 0 (by omega) A B C n c m d p pc us bs qs need W (h.below hW) (h'.below hW) (hg.below hW) (by omega) (by omega) (by omega) hr).mono ?_
   rintro e w' ⟨rfl, hb⟩
   refine ⟨none, 0, none, 0, 0, none, 0, 0, rfl, ⟨rfl, fun h0 => absurd rfl h0⟩, ⟨Nat.le_refl _, Nat.le_refl _, ?_, ?_⟩, .inl rfl, Wr.nil, Wr.nil, hb⟩
   ·rw [show (0 : Rat).num.natAbs = 0 from rfl, digs_zero]; exact Wat.nil
   ·exact Wat.nil

set_option maxRecDepth 100000 in
set_option maxHeartbeats 8000000 in
theorem match30_any (A B C : Option Addr) (n c m d p pc : Nat) (us : List Un) (bs : List Bool) (es : List QE) (need : Int) (w : World) (h : UsRaw w A n us) (h' : BsAt w B m bs) (hg : QsAtR w C p es) (hgs : es.any bigQ = false → ∃ qs, GsAt 0 w C p qs) (hne : Fits need) :
  Calls Tryz.prog 3 #[.slice A n c, .slice B m d, .slice C p pc, .int .i64 need] w fun e w' => e = .returned (.bool true) ∧ Below w.heap.size w w' := by
 have TL := Lib.hid (long30_any A B C n c m d p pc us bs es w h h'.1 hg)
 by_cases hL : long30B us m es = true
 ·rw [hL] at TL
  clear h h' hg hgs hL
  go_enter Tryz.func3, Tryz.ntmps3
  go_wp2_with fail
  refine TL.out.mono ?_
  rintro e w1 ⟨rfl, hb1⟩
  have HB1 := Lib.hid hb1
  clear hb1 TL
  go_wp2_with fail
  refine (awake30_any _).mono ?_
  rintro e w2 ⟨rfl, hb2⟩
  have HF := Lib.hid (HB1.out.trans (hb2.mono HB1.out.size))
  clear hb2
  go_wp2
  go_ret
  exact ⟨rfl, HF.out⟩
 have hL : long30B us m es = false := by simpa using hL
 rw [hL] at TL
 obtain ⟨l1, l2, l3⟩ := long30_no hL
 obtain ⟨hu, hn30, hm30⟩ := h.at l1
 obtain ⟨qs, hq⟩ := hgs l3
 have hpl : p ≤ 30 := by have := hg.1; omega
 obtain ⟨n0, ms, sm, pr, x, hn0, hsl, hsz, hTR, hTP⟩ := both_fill A B C n c m d p pc us bs qs need w hu h' hq (by omega) (by omega) (by omega)
 have TR := Lib.hid hTR
 have TP := Lib.hid hTP
 have HSL := Lib.hid hsl
 have HSZ := Lib.hid hsz
 have HPM := Lib.hid hn0
 have hxx : (x != x) = false := by simp
 have hpp : (pr != pr) = false := by simp
 unfold RefM at TR
 unfold FillM at TP
 clear h h' hg hgs hL l1 l2 l3 hu hn30 hm30 hq hpl hn0 hsl hsz hTR hTP
 go_enter Tryz.func3, Tryz.ntmps3
 go_wp2_with fail
 refine TL.out.mono ?_
 rintro e w1 ⟨rfl, hb1⟩
 have T1 := Lib.hid (TR.out w1 hb1)
 have HB1 := Lib.hid hb1
 clear hb1 TL TR
 go_wp2_with fail
 refine T1.out.mono ?_
 rintro e w2 ⟨Ah, ch, A1, k1, c1, A2, k2, c2, rfl, hr1, hr2, hb2⟩
 have H2 := Lib.hid (And.intro (HB1.out.trans (hb2.mono HB1.out.size)) (And.intro hr1 hr2))
 clear hr1 hr2 hb2 T1 HB1
 go_wp2_with fail
 have hbx := Blk.new w2 31 #[.bool (decide (sm.num < 0)), .slice A1 k1 c1, .bool false, .slice A2 k2 c2]
 have hkx := (Kp.refl w2).alloc (.cells #[.bool (decide (sm.num < 0)), .slice A1 k1 c1, .bool false, .slice A2 k2 c2] 31)
 have HV := Lib.hid (And.intro (H2.out.1.trans (Below.mono hkx (Below.size H2.out.1))) (And.intro (H2.out.2.1.below hkx) (And.intro (H2.out.2.2.below hkx) hbx)))
 clear H2 hbx hkx
 generalize w2.alloc (.cells #[.bool (decide (sm.num < 0)), .slice A1 k1 c1, .bool false, .slice A2 k2 c2] 31) = V at *
 generalize w2.heap.size = g at *
 clear w2
 go_loopw [13] (fun t wr => ∃ i : Nat, i ≤ 2 ∧ t = .int .i64 (i : Int) ∧ Hid (Kp V wr)) (fun t _ => 2 - (intOf t).toNat)
 case atStart => exact ⟨0, Nat.zero_le _, rfl, Lib.hid (Kp.refl V)⟩
 case round =>
  obtain ⟨i, hi, rfl, HK⟩ := hrel
  by_cases hlt : i < 2
  ·have T2 := Lib.hid (TP.out wr (HV.out.1.trans (Below.mono HK.out (Below.size HV.out.1))))
   have i1 : IntKind.i64.wrap ((i : Int) + 1) = ((i + 1 : Nat) : Int) := IntWalk.i64_in _ (by omega)
   have hki2 : (i : Int) < 2 := by omega
   go_wp2_with fail
   refine T2.out.mono ?_
   rintro e w3 ⟨g3, c3, B1, j1, d1, B2, j2, d2, rfl, hq1, hq2, hfr, hf1, hf2, hb3⟩
   obtain ⟨rfl, rfl⟩ := rq_eq HV.out.2.2.1 hq2
   have H3 := Lib.hid (And.intro hq1 (And.intro hq2 (And.intro hfr (And.intro hf1 (And.intro hf2 hb3)))))
   clear hq1 hq2 hfr hf1 hf2 hb3 T2
   have hkw : Kp V w3 := Kp.trans HK.out H3.out.2.2.2.2.2
   have hka := (Kp.refl w3).alloc (.cells #[.bool (decide (sm.num < 0)), .slice B1 j1 d1, .bool false, .slice B2 j2 d2] 31)
   have hbn := Blk.new w3 31 #[.bool (decide (sm.num < 0)), .slice B1 j1 d1, .bool false, .slice B2 j2 d2]
   have hbv := Kp.blk (Kp.trans hkw hka) HV.out.2.2.2
   obtain ⟨a0, a1, a2, a3, -, -, -, -⟩ := hbv.four
   obtain ⟨b0, b1, b2, b3, -, -, -, -⟩ := hbn.four
   have HU := Lib.hid (And.intro (Kp.trans hkw hka) (And.intro hka hbn))
   have TIS := Lib.hid (fun W (hW : Kp w3 W) => ris_yes sm B1 A1 B2 A2 j1 d1 j2 d2 c1 c2 W (H3.out.2.1.below hW) (HV.out.2.2.1.below (Kp.trans hkw hW)) (by have := (RQ.lens H3.out.2.1 HSL.out).1; omega) (by have := (RQ.lens H3.out.2.1 HSL.out).2; omega))
   have TRW := Lib.hid (fun W (hW : Kp w3 W) => rrows_yes g3 Ah n0 c3 ch ms W (H3.out.1.below hW) (HV.out.2.1.below (Kp.trans hkw hW)) (by have := HPM.out; omega) HSZ.out)
   clear hkw hka hbn hbv
   go_wp2_with fail
   refine (TIS.out _ HU.out.2.1).mono ?_
   rintro e w4 ⟨rfl, hb4⟩
   have hk4 := Kp.trans HU.out.2.1 hb4
   have HB4 := Lib.hid hb4
   clear hb4 TIS a0 a1 a2 a3 b0 b1 b2 b3
   go_wp2_with fail
   refine (TRW.out _ hk4).mono ?_
   rintro e w5 ⟨rfl, hb5⟩
   have hk5 := Kp.trans hk4 hb5
   have hbx5 := (Kp.blk (Kp.trans HB4.out hb5) HU.out.2.2)
   have hsz5 : w3.heap.size < w5.heap.size := hbx5.lt
   have TS := Lib.hid (show Calls Tryz.prog 16 #[.slice g3 n0 c3] w5 (fun e w' => e = .returned (.tuple #[]) ∧ Sp wr.heap.size w3.heap.size w5 w') from by
    rcases H3.out.2.2.1 with h0 | ⟨g, hg, hfr, hgl⟩
    ·rw [h0]
     exact spoil_nil _ _ _ _ _
    ·rw [hg]
     exact spoil_any wr.heap.size w3.heap.size g n0 c3 w5 (hfr.below hk5) (hfr.top.below hk5 hfr.lt) hgl hfr.lt (by have := HPM.out; omega))
   have HW5 := Lib.hid (And.intro hk5 hbx5)
   clear hk4 hb5 hk5 hbx5 TRW HB4
   go_wp2_with fail
   refine TS.out.mono ?_
   rintro e w6 ⟨rfl, hs6⟩
   have hbx6 : Blk w6 w3.heap.size 31 #[.bool (decide (sm.num < 0)), .slice B1 j1 d1, .bool false, .slice B2 j2 d2] := (hs6.2.2.1 _ (Nat.le_refl _)).trans HW5.out.2
   have h56 : w3.heap.size ≤ w6.heap.size := by rw [hs6.2.1]; omega
   have hw1 : Wr wr.heap.size w6.heap.size w6 B1 j1 := hs6.2.2.2 _ _ _ _ ((H3.out.2.2.2.1.move h56).below HW5.out.1)
   have hw2 : Wr wr.heap.size w6.heap.size w6 B2 j2 := hs6.2.2.2 _ _ _ _ ((H3.out.2.2.2.2.1.move h56).below HW5.out.1)
   obtain ⟨b0, b1, b2, b3, -, -, -, -⟩ := hbx6.four
   have hfr := fr_one (a := decide (sm.num < 0)) (a' := false) H3.out.2.1.1 H3.out.2.1.2.1 hw1 hw2
   have hr3 : wr.heap.size ≤ w3.heap.size := Below.size H3.out.2.2.2.2.2
   have TS2 := Lib.hid (spoil_any wr.heap.size (w6.heap.size + 1) w6.heap.size 1 1 _ hfr (by have := hfr.top; rwa [World.size_alloc] at this) (by omega) (by omega) (by omega))
   have HB6 := Lib.hid (show Below wr.heap.size wr (w6.alloc (.cells #[.bool (decide (sm.num < 0)), .slice B1 j1 d1, .bool false, .slice B2 j2 d2] 31)) from ((H3.out.2.2.2.2.2.trans (Below.mono HW5.out.1 hr3)).trans hs6.1).trans (Below.mono ((Kp.refl w6).alloc _) (by omega)))
   clear hs6 hbx6 h56 hw1 hw2 hfr hr3 TS HW5 hsz5
   go_wp2_with fail
   refine TS2.out.mono ?_
   rintro e w7 ⟨rfl, hs7⟩
   have HF := Lib.hid (show Kp V w7 from Kp.trans HK.out (HB6.out.trans hs7.1))
   clear hs7 TS2 HB6 b0 b1 b2 b3 HU H3
   go_wp2
   go_roundw
   case rel => exact ⟨i + 1, by omega, by first | rfl | go_num, HF⟩
   case measure => simp [intOf]; omega
  ·obtain rfl : i = 2 := by omega
   have HB1 := Lib.hid (HV.out.1.trans (Below.mono HK.out (Below.size HV.out.1)))
   go_wp2_with fail
   refine (awake30_any _).mono ?_
   rintro e w2 ⟨rfl, hb2⟩
   have HF := Lib.hid (HB1.out.trans (hb2.mono HB1.out.size))
   clear hb2
   go_wp2
   go_ret
   exact ⟨rfl, HF.out⟩

end Go.Proofs.YtodkhjihkkmplaaGreat

namespace Go.Proofs.YtodkhjihkkmplaaGreat
set_option linter.unusedVariables false
set_option linter.unusedSimpArgs false
open Go.ChangeShapes Go.WideShapes Go.ChangeAt Go.RowKit Go.Deep
open Wd

set_option maxHeartbeats 2000000 in
set_option maxRecDepth 100000 in
theorem reserveMatches_lifted (os : Os) (started : os.Started) (H : Type) (enc : TypeId × Value → H) :
  ReturnsInHanded {} Tryz.checked os 3 .any (Rows.reserveMatchesSpec.pre6 enc Tryz.prog Tryz.f3 Rows.reserveMatchesRow.domain false) (Rows.reserveMatchesSpec.post enc Tryz.prog Tryz.f3 false true false false) := by
 refine returnsInHanded_of_change (C := Tryz.checked) own started (by kernel_rfl) Tryz.func3
  (ChangeSpec.witness6 (enc := enc) (C := Tryz.checked) false ⟨#[], #[.slice none 0 0, .slice none 0 0, .slice none 0 0, .int .i64 0], []⟩ 8 (by kernel_rfl) (by kernel_rfl) (by kernel_rfl) (by kernel_rfl)) ?_
 intro W base args ds gs before hval0 hW hcnd _
 have hval : ∀ (j : Nat) t v, Tryz.f3.params[j]? = some t → args[j]? = some v → Value.okWide Tryz.prog W .any base t v := hval0
 have hW' := hW
 obtain ⟨p, q, hA0, hV, rfl, hfz, hnd⟩ := hW
 have hA : DataW.TrodAll enc Tryz.prog W 0 (fun _ => true) true Tryz.f3.params.toList args.toList ds p := hA0
 rw [Tryz.params3] at hA hval
 obtain ⟨v0, vs0, d0, ds0, p0, q0, hargs, rfl, rfl, h0, r0⟩ := trodAll_cons hA
 obtain ⟨v1, vs1, d1, ds1, p1, q1, rfl, rfl, rfl, h1, r1⟩ := trodAll_cons r0
 obtain ⟨v2, vs2, d2, ds2, p2, q2, rfl, rfl, rfl, h2, r2⟩ := trodAll_cons r1
 obtain ⟨v3, vs3, d3, ds3, p3, q3, rfl, rfl, rfl, h3, r3⟩ := trodAll_cons r2
 obtain ⟨rfl, rfl, rfl⟩ := trodAll_nil r3
 obtain rfl : args = #[v0, v1, v2, v3] := by cases args; simp_all
 obtain ⟨rfl, rfl⟩ := trodVars_none hV
 clear hA0 hval0 hcnd
 obtain ⟨a0, len0, cap0, rfl⟩ := okWide_slice Tryz.underlying22 (hval 0 22 _ rfl rfl)
 obtain ⟨fu0, hf0⟩ := h0
 obtain ⟨A0, n0, c0, x0, hcs0, g0⟩ := us_of hf0
 simp only [Value.cells] at hcs0
 obtain ⟨rfl, rfl, rfl⟩ : a0 = A0 ∧ len0 = n0 ∧ cap0 = c0 := by simpa using hcs0
 obtain ⟨a1, len1, cap1, rfl⟩ := okWide_slice Tryz.underlying23 (hval 1 23 _ rfl rfl)
 obtain ⟨fu1, hf1⟩ := h1
 obtain ⟨A1, n1, c1, x1, hcs1, g1⟩ := bs_of hf1
 simp only [Value.cells] at hcs1
 obtain ⟨rfl, rfl, rfl⟩ : a1 = A1 ∧ len1 = n1 ∧ cap1 = c1 := by simpa using hcs1
 obtain ⟨a2, len2, cap2, rfl⟩ := okWide_slice Tryz.underlying24 (hval 2 24 _ rfl rfl)
 obtain ⟨fu2, hf2⟩ := h2
 obtain ⟨A2, n2, c2, x2, hcs2, g2⟩ := qs_of hf2
 simp only [Value.cells] at hcs2
 obtain ⟨rfl, rfl, rfl⟩ : a2 = A2 ∧ len2 = n2 ∧ cap2 = c2 := by simpa using hcs2
 obtain ⟨z3, rfl, rfl, rfl, w3⟩ := open_int Tryz.underlying2 (hval 3 2 _ rfl rfl) h3
 refine (match30_any a0 a1 a2 len0 cap0 len1 cap1 len2 cap2 x0 x1 x2 z3 W g0 g1 g2.1 g2.gs (fits_of w3)).mono fun e W' ⟨he, hb⟩ => ?_
 subst he
 exact ⟨_, rfl, post_true laidOut Tryz.underlying4 rfl (by kernel_rfl) (rowed (by kernel_rfl)) hW' rfl rfl rfl hb⟩

theorem reserveMatches_holds : Rows.ReserveMatchesSaid :=
 OpenClaim.holds_of_wide 3 Tryz.f3 rfl rfl rfl rfl rfl rfl rfl ⟨rfl, rfl, rfl, rfl, rfl⟩ rfl rfl rfl rfl rfl (by kernel_rfl) Tryz.func3 (by kernel_rfl)
  (of_decide_eq_true (by kernel_rfl)) (by unfold Func.isWrapper; first | (rw [if_pos (by decide +kernel)]; kernel_rfl) | (rw [if_neg (by decide +kernel)]; exact ⟨rfl, rfl⟩))
  (fun os started H enc _ => reserveMatches_lifted os started H enc)
#print axioms reserveMatches_holds
end Go.Proofs.YtodkhjihkkmplaaGreat
