/-
The walk of ClearPriceInterval where offers and bids are valid. No statement of the seat is proved here; no conditions beyond those of each theorem.
-/
import Derived.Test.YtjajigkacccdgaaGreatTbBW
namespace Go.Proofs.YtjajigkacccdgaaGreat
set_option linter.unusedVariables false
set_option linter.unusedSimpArgs false
open Go.RowKit
open Wd

theorem sz_drew (w : World) : w.drew.heap.size = w.heap.size := rfl
theorem blk_here {V X : World} (h : Kp V X) (t : TypeId) (cs : Array Value) : Blk (X.alloc (.cells cs t)) X.heap.size t cs := Blk.new X t cs


set_option maxRecDepth 100000 in
set_option maxHeartbeats 8000000 in
theorem pint_yes (A B : Option Addr) (n c m d : Nat) (os bs : List (List (Int × Int))) (an an' bn bn' : Bool) (pA pB qA qB : Option Addr) (pk pc pj pd qk qc qj qd part : Nat) (w : World) (h : CsAt w A n os) (h' : CsAt w B m bs) (hs : ∀ l ∈ os, l.length ≤ 1000000000000) (ht : ∀ l ∈ bs, l.length ≤ 1000000000000) (hp : QRaw w pA pk pc pB pj pd) (hq : QRaw w qA qk qc qB qj qd) (hpt : part ≤ 255) (hlg : (longC os || longC bs) = false) (hbq : [(an, (pA, pk, pc), an', (pB, pj, pd)), (bn, (qA, qk, qc), bn', (qB, qj, qd))].any bigQ = false) (hck : ckB os bs = 0) : Calls Tryz.prog 8 #[.slice A n c, .slice B m d, .agg #[.bool an, .slice pA pk pc, .bool an', .slice pB pj pd], .agg #[.bool bn, .slice qA qk qc, .bool bn', .slice qB qj qd], .int .u8 (part : Int)] w fun e w' => e = .returned (.bool true) ∧ Below w.heap.size w w' := by
 have HAW := Lib.hid (fun W => awake25_any W)
 have HL := Lib.hid (fun W (hW : Below w.heap.size w W) => long25_any A B n c m d os bs W (h.below hW) (h'.below hW))
 have HLQ := Lib.hid (fun W => long_qq an an' bn bn' pA pB qA qB pk pc pj pd qk qc qj qd W)
 have HM := Lib.hid (fun W (hW : Below w.heap.size w W) => may_any A B n c m d os bs W (h.below hW) (h'.below hW) hs ht)
 have HRA := Lib.hid (fun W (hW : Below w.heap.size w W) => run_ok A B n c m d os bs W (h.below hW) (h'.below hW) hck)
 have HCL := fun (W : World) (hW : Below w.heap.size w W) (cn cn' : Bool) (cA cA' : Option Addr) (ck cc ck' cc' : Nat) (q : Rat) (hq : QArg W cn cA ck cc cn' cA' ck' cc' q) => clears_any A B n c m d os bs cn cn' cA cA' ck cc ck' cc' q W (h.below hW) (h'.below hW) hq hs ht
 simp only [hck, decide_true, Bool.true_and] at HCL
 rw [hlg] at HL
 rw [hbq] at HLQ
 rw [decide_eq_true hck] at HM
 have HCL := Lib.hid HCL
 obtain ⟨k1, k2, k3, k4⟩ := ckB_iff.1 hck
 have hb6 : (pk ≤ 6 ∧ pj ≤ 6) ∧ qk ≤ 6 ∧ qj ≤ 6 := by
  simp [bigQ] at hbq
  omega
 obtain ⟨rp, hrp⟩ := hp.qs an an' hb6.1.1 hb6.1.2
 obtain ⟨rq, hrq⟩ := hq.qs bn bn' hb6.2.1 hb6.2.2
 have HP := Lib.hid hrp
 have HQ := Lib.hid hrq
 have HKK := Lib.hid (And.intro (Pos.of k3) (And.intro (Pos.of k4) (And.intro (PrB.of k3) (PrB.of k4))))
 have HKD := Lib.hid (part_bd part hpt)
 have HNW := Lib.hid (fun W => new_any (part : Int) 255 W (by omega) (by omega) (by omega))
 have HLA := Lib.hid h.1
 have HLB := Lib.hid h'.1
 clear h h' hs ht hp hq hlg hbq hck hb6 hrp hrq k1 k2 k3 k4
 go_enter Tryz.func8, Tryz.ntmps8
 go_wp2_with fail
 obtain ⟨hB0, hB1, hBW, hsz⟩ := pre2 w 42 #[.bool an, .slice pA pk pc, .bool an', .slice pB pj pd] 42 #[.bool bn, .slice qA qk qc, .bool bn', .slice qB qj qd]
 generalize (w.alloc (.cells #[.bool an, .slice pA pk pc, .bool an', .slice pB pj pd] 42)).alloc (.cells #[.bool bn, .slice qA qk qc, .bool bn', .slice qB qj qd] 42) = W at *
 have HSZ := Lib.hid hsz
 clear hsz

 refine (HL.out W hBW).mono ?_
 rintro e w1 ⟨rfl, hb1⟩
 obtain ⟨f0, f1, f2, f3, -, -, -, -⟩ := (hB0.below hb1 hB0.lt).four
 obtain ⟨g0, g1, g2, g3, -, -, -, -⟩ := (hB1.below hb1 hB1.lt).four
 have HB1 := Lib.hid (hBW.trans (hb1.mono hBW.size))
 have HBX := Lib.hid (And.intro (hB0.below hb1 hB0.lt) (hB1.below hb1 hB1.lt))
 clear hb1 HL hB0 hB1 hBW HSZ
 go_wp2_with fail
 refine (HLQ.out w1).mono ?_
 rintro e w2 ⟨rfl, hb2⟩
 have hb2' : Below w1.heap.size w1 w2 := Below.trans ((Kp.refl w1).alloc (.cells #[.bool an, .slice pA pk pc, .bool an', .slice pB pj pd, .bool bn, .slice qA qk qc, .bool bn', .slice qB qj qd] 42)) (hb2.mono (by simp))
 have HB2 := Lib.hid (HB1.out.trans (hb2'.mono HB1.out.size))
 have HBX2 := Lib.hid (And.intro (HBX.out.1.below hb2' HBX.out.1.lt) (HBX.out.2.below hb2' HBX.out.2.lt))
 clear hb2 hb2' HB1 HBX HLQ f0 f1 f2 f3 g0 g1 g2 g3
 go_wp2_with fail
 refine (HM.out w2 HB2.out).mono ?_
 rintro e w3 ⟨rfl, hb3⟩
 have HB3 := Lib.hid (HB2.out.trans (hb3.mono HB2.out.size))
 have hb3' : Below w2.heap.size w2 w3 := hb3
 have HBX3 := Lib.hid (And.intro (HBX2.out.1.below hb3' HBX2.out.1.lt) (HBX2.out.2.below hb3' HBX2.out.2.lt))
 clear hb3 hb3' HB2 HBX2 HM
 go_wp2_with fail
 refine (HAW.out _).mono ?_
 rintro e w4 ⟨rfl, hb4⟩
 have HB4 := Lib.hid (HB3.out.trans (hb4.mono HB3.out.size))
 have HBX4 := Lib.hid (And.intro (HBX3.out.1.below hb4 HBX3.out.1.lt) (HBX3.out.2.below hb4 HBX3.out.2.lt))
 clear hb4 HB3 HBX3 HAW
 go_wp2_with fail
 refine (HRA.out w4 HB4.out).mono ?_
 rintro e u1 ⟨z, pz, wf, xs, ys, S, D, g1, g2, rfl, hv, -, -, -, -, hb1⟩
 rw [HLA.out, HLB.out]
 have hbo := Blk.new u1 81 #[.int .i64 z, .int .i64 pz, .int .i64 wf, .slice (some ⟨g1, 0, none⟩) n n, .slice (some ⟨g2, 0, none⟩) m m]
 have kx := (Kp.refl u1).alloc (.cells #[.int .i64 z, .int .i64 pz, .int .i64 wf, .slice (some ⟨g1, 0, none⟩) n n, .slice (some ⟨g2, 0, none⟩) m m] 81)
 have HU1 := Lib.hid (HB4.out.trans ((hb1.trans (Below.mono kx hb1.size)).mono HB4.out.size))
 have HBX5 := Lib.hid (And.intro ((HBX4.out.1.below hb1 HBX4.out.1.lt).below kx (HBX4.out.1.below hb1 HBX4.out.1.lt).lt) ((HBX4.out.2.below hb1 HBX4.out.2.lt).below kx (HBX4.out.2.below hb1 HBX4.out.2.lt).lt))
 have hpb := PrZ.bds hv.pr HKK.out.2.2.1 HKK.out.2.2.2
 have HPR := Lib.hid hv.pr
 obtain ⟨⟨x0, x1, x2, x3, x4⟩, -⟩ := hbo.five
 have HBO := Lib.hid hbo
 clear hv hb1 kx hbo HRA HB4 HBX4
 go_wp2_with fail
 generalize u1.alloc (.cells #[.int .i64 z, .int .i64 pz, .int .i64 wf, .slice (some ⟨g1, 0, none⟩) n n, .slice (some ⟨g2, 0, none⟩) m m] 81) = V0 at *
 generalize u1.heap.size = gx at *
 refine (qfromInt64_any pz V0 (by omega) (by omega)).mono ?_
 rintro e u2 ⟨A5, k5, c5, A6, k6, c6, rfl, hk5, hk6, hW5, hW6, -, -, hb2⟩
 have hz3 : Ls 3 ((pz : Int) : Rat) := ls_int (Nat.le_refl 3) (by omega)
 have hqa := RQ.arg (show RQ u2 ((pz : Int) : Rat) A5 k5 c5 A6 k6 c6 from ⟨hk5, hk6, hW5, hW6⟩) hz3 (by decide)
 have hn := (HPR.out.near HKK.out.1 HKK.out.2.1 HKK.out.2.2.1 HKK.out.2.2.2).1
 have HU2 := Lib.hid (HU1.out.trans (hb2.mono HU1.out.size))
 have HC1 := HCL.out u2 HU2.out _ _ _ _ _ _ _ _ _ hqa
 rw [hn] at HC1
 have HC1 := Lib.hid HC1
 have HBX6 := Lib.hid (And.intro (HBX5.out.1.below hb2 HBX5.out.1.lt) (HBX5.out.2.below hb2 HBX5.out.2.lt))
 have HBO2 := Lib.hid (HBO.out.below hb2 HBO.out.lt)
 have HZ3 := Lib.hid hz3
 have HFI := Lib.hid (fun W => qfromInt64_any pz W (by omega) (by omega))
 have HNR := Lib.hid (price_near HPR.out HKK.out.1 HKK.out.2.1 HKK.out.2.2.1 HKK.out.2.2.2 (q := rp))
 generalize ((pz : Int) : Rat) = pr at *
 clear hk5 hk6 hW5 hW6 hb2 hqa hn hz3 HU1 HBX5 HBO x0 x1 x2 x3 x4
 go_wp2_with fail
 refine HC1.out.mono ?_
 rintro e u3 ⟨rfl, hb3⟩
 have HU3 := Lib.hid (HU2.out.trans (hb3.mono HU2.out.size))
 have hbp := HBX6.out.1.below hb3 HBX6.out.1.lt
 have hbq := HBX6.out.2.below hb3 HBX6.out.2.lt
 have HBO3 := Lib.hid (HBO2.out.below hb3 HBO2.out.lt)
 obtain ⟨f0, f1, f2, f3, -, -, -, -⟩ := hbp.four
 have HC2 := Lib.hid (HCL.out u3 HU3.out _ _ _ _ _ _ _ _ _ (HP.out.below HU3.out).arg)
 have HBX7 := Lib.hid (And.intro hbp hbq)
 generalize hba : balB os bs rp = ba at *
 have HBA := Lib.hid hba
 clear hb3 hbp hbq hba HC1 HU2 HBX6 HBO2
 go_wp2_with fail
 refine HC2.out.mono ?_
 rintro e u4 ⟨rfl, hb4⟩
 have HU4 := Lib.hid (HU3.out.trans (hb4.mono HU3.out.size))
 have hbp := HBX7.out.1.below hb4 HBX7.out.1.lt
 have hbq := HBX7.out.2.below hb4 HBX7.out.2.lt
 have HBO4 := Lib.hid (HBO3.out.below hb4 HBO3.out.lt)
 obtain ⟨g0, g1', g2', g3, -, -, -, -⟩ := hbq.four
 have HC3 := Lib.hid (HCL.out u4 HU4.out _ _ _ _ _ _ _ _ _ (HQ.out.below HU4.out).arg)
 have HBX8 := Lib.hid (And.intro hbp hbq)
 generalize hbb : balB os bs rq = bb at *
 have HBB := Lib.hid hbb
 clear hb4 hbp hbq hbb HC2 HU3 HBX7 HBO3 f0 f1 f2 f3
 go_wp2_with fail
 refine HC3.out.mono ?_
 rintro e u5 ⟨rfl, hb5⟩
 have HU5 := Lib.hid (HU4.out.trans (hb5.mono HU4.out.size))
 have HBX9 := Lib.hid (And.intro (HBX8.out.1.below hb5 HBX8.out.1.lt) (HBX8.out.2.below hb5 HBX8.out.2.lt))
 have HBO5 := Lib.hid (HBO4.out.below hb5 HBO4.out.lt)
 clear hb5 HC3 HU4 HBX8 HBO4 g0 g1' g2' g3
 go_wp2_with fail
 refine (HNW.out u5).mono ?_
 rintro e u6 ⟨K1, l1, m1, K2, l2, m2, rfl, hkq, hb6⟩
 have HKL := Lib.hid (show Ls 3 (mkRat (part : Int) (255 : Int).natAbs) from lv_mk (by decide) (Nat.lt_trans (show (part : Int).natAbs < 18446744073709551616 by omega) wb_three) (Nat.lt_trans (by decide) wb_three))
 generalize mkRat (part : Int) (255 : Int).natAbs = kq at *
 have kx := (Kp.refl u6).alloc (.cells #[.bool (decide ((kq).num < 0)), .slice K1 l1 m1, .bool false, .slice K2 l2 m2] 42)
 have hbk := Blk.new u6 42 #[.bool (decide ((kq).num < 0)), .slice K1 l1 m1, .bool false, .slice K2 l2 m2]
 have HU6 := Lib.hid (HU5.out.trans ((hb6.trans (Below.mono kx hb6.size)).mono HU5.out.size))
 have HBXA := Lib.hid (And.intro ((HBX9.out.1.below hb6 HBX9.out.1.lt).below kx (HBX9.out.1.below hb6 HBX9.out.1.lt).lt) ((HBX9.out.2.below hb6 HBX9.out.2.lt).below kx (HBX9.out.2.below hb6 HBX9.out.2.lt).lt))
 have HBO6 := Lib.hid ((HBO5.out.below hb6 HBO5.out.lt).below kx (HBO5.out.below hb6 HBO5.out.lt).lt)
 have HBK := Lib.hid (And.intro hbk (hkq.below kx))
 clear hkq hb6 kx hbk HU5 HBX9 HBO5 HNW
 go_wp2_with fail
 generalize u6.alloc (.cells #[.bool (decide ((kq).num < 0)), .slice K1 l1 m1, .bool false, .slice K2 l2 m2] 42) = V at *
 generalize u6.heap.size = gk at *
 have TS := Lib.hid (fun (W : World) (hW : Kp V W) => sub_s (s := 7) (by decide) (HQ.out.below (HU6.out.trans (Below.mono hW HU6.out.size))) (HP.out.below (HU6.out.trans (Below.mono hW HU6.out.size))))
 have hls1 := HQ.out.ls.sub HP.out.ls
 have hls2 := ((Ls.mono HKL.out (by decide : 3 ≤ 15)).mul hls1)
 have TM := Lib.hid (fun (W : World) (hW : Kp V W) (N : Option Addr) (n o : Nat) (M : Option Addr) (p s : Nat) (h : RQ W (rq - rp) N n o M p s) => mul_s (s := 15) (by decide) ((HBK.out.2.below hW).qs (Ls.mono HKL.out (by decide)) (by decide)) (h.qs hls1 (by decide)))
 have TD := Lib.hid (fun (W : World) (hW : Kp V W) (N : Option Addr) (n o : Nat) (M : Option Addr) (p s : Nat) (h : RQ W (kq * (rq - rp)) N n o M p s) => add_s (s := 31) (by decide) ((HP.out.below (HU6.out.trans (Below.mono hW HU6.out.size))).mono (by decide)) (h.qs hls2 (by decide)))
 have HLS := Lib.hid ((Ls.mono HP.out.ls (by decide : 7 ≤ 31)).add hls2)
 have HMC := Lib.hid (fun (h1 : balB os bs rp = true) (h2 : balB os bs rq = true) => bal_between HKK.out.1 HKK.out.2.1 h1 h2 HKD.out.1 HKD.out.2)
 clear hls1 hls2
 cases ba
 ·have hkX : Kp V V.drew := Kp.drew (Kp.refl V)
  refine wp_region_held_drew (S := fun w' => Kp V w') (by kernel_rfl) (Kp.drew (Kp.refl V)) (fun hHeld => ?_)
  refine' tkk 0 rfl (by kernel_rfl) (fun _ _ _ h => h) (.inl ⟨by rfl, ?_⟩) (by assumption) ?_; rotate_left
  ·(intro w hSw; (try dsimp only at hSw); (try simp only [p1, p2, p3]); go_simp; first | done | with_reducible rfl)
  (try simp only [Act.put, p1, p2, p3, p4, p5, p6])
  refine' tkk 1 rfl (by kernel_rfl) (fun _ _ _ h => h) (.inl ⟨by rfl, ?_⟩) (by assumption) ?_; rotate_left
  ·(intro w hSw; (try dsimp only at hSw); (try simp only [p1, p2, p3]); go_simp; first | done | with_reducible rfl)
  (try simp only [Act.put, p1, p2, p3, p4, p5, p6])
  refine tkk (v := undef) 2 rfl (by kernel_rfl) (fun _ _ _ h => h) (.inr ⟨by rfl, rfl⟩) (by assumption) ?_
  (try simp only [Act.put, p1, p2, p3, p4, p5, p6])
  refine tkk (v := undef) 3 rfl (by kernel_rfl) (fun _ _ _ h => h) (.inr ⟨by rfl, rfl⟩) (by assumption) ?_
  (try simp only [Act.put, p1, p2, p3, p4, p5, p6])
  refine tkk (v := undef) 4 rfl (by kernel_rfl) (fun _ _ _ h => h) (.inr ⟨by rfl, rfl⟩) (by assumption) ?_
  (try simp only [Act.put, p1, p2, p3, p4, p5, p6])
  refine tkk (v := undef) 5 rfl (by kernel_rfl) (fun _ _ _ h => h) (.inr ⟨by rfl, rfl⟩) (by assumption) ?_
  (try simp only [Act.put, p1, p2, p3, p4, p5, p6])
  refine tkk (v := undef) 6 rfl (by kernel_rfl) (fun _ _ _ h => h) (.inr ⟨by rfl, rfl⟩) (by assumption) ?_
  (try simp only [Act.put, p1, p2, p3, p4, p5, p6])
  refine tkk (v := undef) 7 rfl (by kernel_rfl) (fun _ _ _ h => h) (.inr ⟨by rfl, rfl⟩) (by assumption) ?_
  (try simp only [Act.put, p1, p2, p3, p4, p5, p6])
  refine tkk (v := undef) 8 rfl (by kernel_rfl) (fun _ _ _ h => h) (.inr ⟨by rfl, rfl⟩) (by assumption) ?_
  (try simp only [Act.put, p1, p2, p3, p4, p5, p6])
  refine tkk (v := undef) 9 rfl (by kernel_rfl) (fun _ _ _ h => h) (.inr ⟨by rfl, rfl⟩) (by assumption) ?_
  (try simp only [Act.put, p1, p2, p3, p4, p5, p6])
  refine' tkk 10 rfl (by kernel_rfl) (fun _ _ _ h => h) (.inl ⟨by rfl, ?_⟩) (by assumption) ?_; rotate_left
  ·(intro w hSw; (try dsimp only at hSw); (try simp only [p1, p2, p3]); go_simp; first | done | with_reducible rfl)
  (try simp only [Act.put, p1, p2, p3, p4, p5, p6])
  refine wpAnyH_done (by kernel_rfl) ?_ _
  clear hHeld
  go_wp2_with fail
  have HS12 := Lib.hid (show ∀ w', Kp V w' → (w'.cell? ⟨w.heap.size, 0, none⟩ = some (.bool an) ∧ w'.cell? ⟨w.heap.size, 1, none⟩ = some (.slice pA pk pc) ∧ w'.cell? ⟨w.heap.size, 2, none⟩ = some (.bool an') ∧ w'.cell? ⟨w.heap.size, 3, none⟩ = some (.slice pB pj pd) ∧ w'.cell? ⟨gk, 0, none⟩ = some (.bool (decide (kq.num < 0))) ∧ w'.cell? ⟨gk, 1, none⟩ = some (.slice K1 l1 m1) ∧ w'.cell? ⟨gk, 2, none⟩ = some (.bool false) ∧ w'.cell? ⟨gk, 3, none⟩ = some (.slice K2 l2 m2) ∧ w'.cell? ⟨w.heap.size + 1, 0, none⟩ = some (.bool bn) ∧ w'.cell? ⟨w.heap.size + 1, 1, none⟩ = some (.slice qA qk qc) ∧ w'.cell? ⟨w.heap.size + 1, 2, none⟩ = some (.bool bn') ∧ w'.cell? ⟨w.heap.size + 1, 3, none⟩ = some (.slice qB qj qd)) ∧ Kp V w' from fun w' hk => ⟨⟨(Kp.blk hk HBXA.out.1).cell 0, (Kp.blk hk HBXA.out.1).cell 1, (Kp.blk hk HBXA.out.1).cell 2, (Kp.blk hk HBXA.out.1).cell 3, (Kp.blk hk HBK.out.1).cell 0, (Kp.blk hk HBK.out.1).cell 1, (Kp.blk hk HBK.out.1).cell 2, (Kp.blk hk HBK.out.1).cell 3, (Kp.blk hk HBXA.out.2).cell 0, (Kp.blk hk HBXA.out.2).cell 1, (Kp.blk hk HBXA.out.2).cell 2, (Kp.blk hk HBXA.out.2).cell 3⟩, hk⟩)
  refine wp_region_held_drew (S := fun w' => (w'.cell? ⟨w.heap.size, 0, none⟩ = some (.bool an) ∧ w'.cell? ⟨w.heap.size, 1, none⟩ = some (.slice pA pk pc) ∧ w'.cell? ⟨w.heap.size, 2, none⟩ = some (.bool an') ∧ w'.cell? ⟨w.heap.size, 3, none⟩ = some (.slice pB pj pd) ∧ w'.cell? ⟨gk, 0, none⟩ = some (.bool (decide (kq.num < 0))) ∧ w'.cell? ⟨gk, 1, none⟩ = some (.slice K1 l1 m1) ∧ w'.cell? ⟨gk, 2, none⟩ = some (.bool false) ∧ w'.cell? ⟨gk, 3, none⟩ = some (.slice K2 l2 m2) ∧ w'.cell? ⟨w.heap.size + 1, 0, none⟩ = some (.bool bn) ∧ w'.cell? ⟨w.heap.size + 1, 1, none⟩ = some (.slice qA qk qc) ∧ w'.cell? ⟨w.heap.size + 1, 2, none⟩ = some (.bool bn') ∧ w'.cell? ⟨w.heap.size + 1, 3, none⟩ = some (.slice qB qj qd)) ∧ Kp V w') (by kernel_rfl) (HS12.out _ (Kp.drew hkX)) (fun hHeld => ?_)
  refine' tkk 0 rfl (by kernel_rfl) (fun _ _ _ h => h) (.inl ⟨by rfl, ?_⟩) (by assumption) ?_; rotate_left
  ·(intro w hSw; (try dsimp only at hSw); (try simp only [p1, p2, p3]); go_simp; first | done | with_reducible rfl)
  (try simp only [Act.put, p1, p2, p3, p4, p5, p6])
  refine' tkk 1 rfl (by kernel_rfl) (fun _ _ _ h => h) (.inl ⟨by rfl, ?_⟩) (by assumption) ?_; rotate_left
  ·(intro w hSw; (try dsimp only at hSw); (try simp only [p1, p2, p3]); go_simp; first | done | with_reducible rfl)
  (try simp only [Act.put, p1, p2, p3, p4, p5, p6])
  refine' tkk 2 rfl (by kernel_rfl) (fun _ _ _ h => h) (.inl ⟨by rfl, ?_⟩) (by assumption) ?_; rotate_left
  ·(intro w hSw; (try dsimp only at hSw); (try simp only [p1, p2, p3]); go_simp; first | done | with_reducible rfl)
  (try simp only [Act.put, p1, p2, p3, p4, p5, p6])
  refine' tkk 3 rfl (by kernel_rfl) (fun _ _ _ h => h) (.inl ⟨by rfl, ?_⟩) (by assumption) ?_; rotate_left
  ·(intro w hSw; (try dsimp only at hSw); (try simp only [p1, p2, p3]); go_simp; first | done | with_reducible rfl)
  (try simp only [Act.put, p1, p2, p3, p4, p5, p6])
  refine wpAnyH_ready (rs := [4, 7]) (by kernel_rfl) (by simp) ?_
  refine AllReadyH.cons rfl (fun K hK => ?_) ?_
  ·(try simp only [p1, p2, p3])
   go_simp
   have hk := And.right ‹_ ∧ Kp V _›
   refine (TS.out _ hk).mono ?_
   rintro e v4 ⟨N4, n4, o4, M4, p4, s4, rfl, hk1, hk2, hW1, hW2, -, -, hbx⟩
   have hp : Kp V v4 := Kp.trans hk hbx
   have h4r := (show RQ v4 (rq - rp) N4 n4 o4 M4 p4 s4 from ⟨hk1, hk2, hW1, hW2⟩)
   (try replace hb7 := Blk.below hb7 hbx hb7.lt)
   clear hk hbx hk1 hk2 hW1 hW2
   (try (go_wp2_with fail))
   refine hK.out _ _ ?k18 (fun hHeld18 => ?n18)
   case k18 => ((try dsimp only); first | (with_reducible refine HS12.out _ ?_; with_reducible assumption) | (with_reducible refine HS12.out _ (Kp.drew ?_); with_reducible assumption) | (with_reducible refine' HS12.out _ (Kp.drew (And.right ?_)); rotate_left; with_reducible assumption) | (with_reducible refine' HS12.out _ (Kp.alloc (And.right ?_) _); rotate_left; with_reducible assumption) | (with_reducible refine' HS12.out _ (kp_set4 (And.right ?_) hg7 _ _ _ _); rotate_left; with_reducible assumption) | (exact HS12.out _ (Kp.drew (Kp.alloc hkX _))))
   clear hK K
   (try simp only [Act.put, p1, p2, p3, p4, p5, p6])
   refine wpAnyH_ready (rs := [5, 7]) (by kernel_rfl) (by simp) ?_
   refine AllReadyH.cons rfl (fun K hK => ?_) ?_
   ·(try simp only [p1, p2, p3])
    go_simp
    have hk := And.right ‹_ ∧ Kp V _›
    refine (TM.out _ hk _ _ _ _ _ _ h4r).mono ?_
    rintro e v5 ⟨N5, n5, o5, M5, p5, s5, rfl, hk1, hk2, hW1, hW2, -, -, hbx⟩
    have hp : Kp V v5 := Kp.trans hk hbx
    have h5r := (show RQ v5 (kq * (rq - rp)) N5 n5 o5 M5 p5 s5 from ⟨hk1, hk2, hW1, hW2⟩)
    (try replace hb7 := Blk.below hb7 hbx hb7.lt)
    clear hk hbx hk1 hk2 hW1 hW2
    (try (go_wp2_with fail))
    refine hK.out _ _ ?k19 (fun hHeld19 => ?n19)
    case k19 => ((try dsimp only); first | (with_reducible refine HS12.out _ ?_; with_reducible assumption) | (with_reducible refine HS12.out _ (Kp.drew ?_); with_reducible assumption) | (with_reducible refine' HS12.out _ (Kp.drew (And.right ?_)); rotate_left; with_reducible assumption) | (with_reducible refine' HS12.out _ (Kp.alloc (And.right ?_) _); rotate_left; with_reducible assumption) | (with_reducible refine' HS12.out _ (kp_set4 (And.right ?_) hg7 _ _ _ _); rotate_left; with_reducible assumption) | (exact HS12.out _ (Kp.drew (Kp.alloc hkX _))))
    clear hK K
    (try simp only [Act.put, p1, p2, p3, p4, p5, p6])
    refine wpAnyH_ready (rs := [6, 7]) (by kernel_rfl) (by simp) ?_
    refine AllReadyH.cons rfl (fun K hK => ?_) ?_
    ·(try simp only [p1, p2, p3])
     go_simp
     have hk := And.right ‹_ ∧ Kp V _›
     refine (TD.out _ hk _ _ _ _ _ _ h5r).mono ?_
     rintro e v6 ⟨N6, n6, o6, M6, p6, s6, rfl, hk1, hk2, hW1, hW2, -, -, hbx⟩
     have hp : Kp V v6 := Kp.trans hk hbx
     have h6r := (show RQ v6 (rp + kq * (rq - rp)) N6 n6 o6 M6 p6 s6 from ⟨hk1, hk2, hW1, hW2⟩)
     (try replace hb7 := Blk.below hb7 hbx hb7.lt)
     clear hk hbx hk1 hk2 hW1 hW2
     have h6z := h6r
     (try (go_wp2_with fail))
     refine hK.out _ _ ?k20 (fun hHeld20 => ?n20)
     case k20 => ((try dsimp only); first | (with_reducible refine HS12.out _ ?_; with_reducible assumption) | (with_reducible refine HS12.out _ (Kp.drew ?_); with_reducible assumption) | (with_reducible refine' HS12.out _ (Kp.drew (And.right ?_)); rotate_left; with_reducible assumption) | (with_reducible refine' HS12.out _ (Kp.alloc (And.right ?_) _); rotate_left; with_reducible assumption) | (with_reducible refine' HS12.out _ (kp_set4 (And.right ?_) hg7 _ _ _ _); rotate_left; with_reducible assumption) | (exact HS12.out _ (Kp.drew (Kp.alloc hkX _))))
     clear hK K
     (try simp only [Act.put, p1, p2, p3, p4, p5, p6])
     refine wpAnyH_ready (rs := [7]) (by kernel_rfl) (by simp) ?_
     refine AllReadyH.cons rfl (fun K hK => ?_) AllReadyH.nil
     (try simp only [p1, p2, p3])
     go_simp
     have hk := And.right ‹_ ∧ Kp V _›
     have hg7 := Below.size hk
     have hb7 := blk_here hk 42 #[.bool false, .slice none 0 0, .bool false, .slice none 0 0]
     (try simp only [sz_drew] at hb7 hg7)
     (try replace h4r := RQ.below h4r ((Kp.refl _).alloc (.cells #[.bool false, .slice none 0 0, .bool false, .slice none 0 0] 42)))
     (try replace h5r := RQ.below h5r ((Kp.refl _).alloc (.cells #[.bool false, .slice none 0 0, .bool false, .slice none 0 0] 42)))
     (try replace h6r := RQ.below h6r ((Kp.refl _).alloc (.cells #[.bool false, .slice none 0 0, .bool false, .slice none 0 0] 42)))
     clear hk
     refine hK.out _ _ ?k21 (fun hHeld21 => ?n21)
     case k21 => ((try dsimp only); first | (with_reducible refine HS12.out _ ?_; with_reducible assumption) | (with_reducible refine HS12.out _ (Kp.drew ?_); with_reducible assumption) | (with_reducible refine' HS12.out _ (Kp.drew (And.right ?_)); rotate_left; with_reducible assumption) | (with_reducible refine' HS12.out _ (Kp.alloc (And.right ?_) _); rotate_left; with_reducible assumption) | (with_reducible refine' HS12.out _ (kp_set4 (And.right ?_) hg7 _ _ _ _); rotate_left; with_reducible assumption) | (exact HS12.out _ (Kp.drew (Kp.alloc hkX _))))
     clear hK K
     (try simp only [Act.put, p1, p2, p3, p4, p5, p6])
     refine wpAnyH_ready (rs := [8]) (by kernel_rfl) (by simp) ?_
     refine AllReadyH.cons rfl (fun K hK => ?_) AllReadyH.nil
     have hk := And.right ‹_ ∧ Kp V _›
     obtain ⟨_, _, _, _, i0, i1, i2, i3⟩ := hb7.four
     (try simp only [p1, p2, p3])
     go_simp
     refine hK.out _ _ ?k22 (fun hHeld22 => ?n22)
     case k22 => ((try dsimp only); first | (with_reducible refine HS12.out _ ?_; with_reducible assumption) | (with_reducible refine HS12.out _ (Kp.drew ?_); with_reducible assumption) | (with_reducible refine' HS12.out _ (Kp.drew (And.right ?_)); rotate_left; with_reducible assumption) | (with_reducible refine' HS12.out _ (Kp.alloc (And.right ?_) _); rotate_left; with_reducible assumption) | (with_reducible refine' HS12.out _ (kp_set4 (And.right ?_) hg7 _ _ _ _); rotate_left; with_reducible assumption) | (exact HS12.out _ (Kp.drew (Kp.alloc hkX _))))
     clear hK K
     (try simp only [Act.put, p1, p2, p3, p4, p5, p6])
     refine wpAnyH_done (by kernel_rfl) ?_ _
     (try clear hHeld1)
     (try clear hHeld2)
     (try clear hHeld3)
     (try clear hHeld4)
     (try clear hHeld5)
     (try clear hHeld6)
     (try clear hHeld7)
     (try clear hHeld8)
     (try clear hHeld9)
     (try clear hHeld10)
     (try clear hHeld11)
     (try clear hHeld12)
     (try clear hHeld13)
     (try clear hHeld14)
     (try clear hHeld15)
     (try clear hHeld16)
     (try clear hHeld17)
     (try clear hHeld18)
     (try clear hHeld19)
     (try clear hHeld20)
     (try clear hHeld21)
     (try clear hHeld22)
     (try clear hHeld23)
     (try clear hHeld24)
     (try clear hHeld25)
     (try clear hHeld26)
     (try clear hHeld27)
     (try clear hHeld28)
     (try clear hHeld29)
     (try clear hHeld30)
     (try clear hHeld31)
     (try clear hHeld32)
     (try clear hHeld33)
     (try clear hHeld34)
     (try clear hHeld35)
     (try clear hHeld36)
     (try clear hHeld37)
     (try clear hHeld38)
     (try clear hHeld39)
     (try clear hHeld40)
     (try clear hHeld41)
     (try clear hHeld42)
     (try clear hHeld43)
     (try clear hHeld44)
     (try clear hHeld45)
     (try clear hHeld46)
     (try clear hHeld47)
     (try clear hHeld48)
     (try clear hHeld49)
     (try clear hHeld50)
     (try clear hHeld51)
     (try clear hHeld52)
     (try clear hHeld53)
     (try clear hHeld54)
     (try clear hHeld55)
     (try clear hHeld56)
     (try clear hHeld57)
     (try clear hHeld58)
     (try clear hHeld59)
     (try clear hHeld60)
     have hkY := kp_set4 hk hg7 (.bool (decide (((rp + kq * (rq - rp))).num < 0))) (.slice N6 n6 o6) (.bool false) (.slice M6 p6 s6)
     have hb9 := (show Blk (qst _ _ 0 (decide (((rp + kq * (rq - rp))).num < 0)) false N6 M6 n6 o6 p6 s6) _ 42 #[.bool (decide (((rp + kq * (rq - rp))).num < 0)), .slice N6 n6 o6, .bool false, .slice M6 p6 s6] from hb7.put4)
     have hq9 := RQ.put4 (o := 0) (a := decide (((rp + kq * (rq - rp))).num < 0)) (b := false) (B := N6) (B' := M6) (j := n6) (d := o6) (j' := p6) (d' := s6) h6r hb7 NoInt.four
     obtain ⟨c0, c1, c2, c3, -, -, -, -⟩ := hb9.four
     simp only [qst, Nat.zero_add] at c0 c1 c2 c3
     have HUY := Lib.hid (HU6.out.trans (Below.mono hkY HU6.out.size))
     have hC9 := HCL.out _ (HU6.out.trans (Below.mono hkY HU6.out.size)) _ _ _ _ _ _ _ _ _ (RQ.arg hq9 HLS.out (by decide))
     have hka := hp.alloc (.cells #[.bool (decide (((rp + kq * (rq - rp))).num < 0)), .slice N6 n6 o6, .bool false, .slice M6 p6 s6] 42)
     have HUYb := Lib.hid (HU6.out.trans (Below.mono hka HU6.out.size))
     have hC9b := HCL.out _ (HU6.out.trans (Below.mono hka HU6.out.size)) _ _ _ _ _ _ _ _ _ (RQ.arg (RQ.below h6z ((Kp.refl v6).alloc (.cells #[.bool (decide (((rp + kq * (rq - rp))).num < 0)), .slice N6 n6 o6, .bool false, .slice M6 p6 s6] 42))) HLS.out (by decide))
     clear hka h6z hb9 hq9 hkY hb7 h6r hk i0 i1 i2 i3 hkX HS12 TS TM TD
     generalize balB os bs (rp + kq * (rq - rp)) = cc at *
     have HC9 := Lib.hid hC9
     have HC9b := Lib.hid hC9b
     clear hC9 hC9b
     go_wp2_with fail
     (first | refine HC9.out.mono ?_ | refine HC9b.out.mono ?_)
     rintro e y1 ⟨rfl, hby⟩
     have HF : Hid (Below w.heap.size w y1) := Lib.hid (by first | exact HUY.out.trans (hby.mono HUY.out.size) | exact HUYb.out.trans (hby.mono HUYb.out.size))
     clear hby HC9 HC9b HUY HUYb
     go_wp2
     go_ret
     exact ⟨rfl, HF.out⟩
    refine AllReadyH.cons rfl (fun K hK => ?_) ?_
    ·(try simp only [p1, p2, p3])
     go_simp
     have hk := And.right ‹_ ∧ Kp V _›
     have hg7 := Below.size hk
     have hb7 := blk_here hk 42 #[.bool false, .slice none 0 0, .bool false, .slice none 0 0]
     (try simp only [sz_drew] at hb7 hg7)
     (try replace h4r := RQ.below h4r ((Kp.refl _).alloc (.cells #[.bool false, .slice none 0 0, .bool false, .slice none 0 0] 42)))
     (try replace h5r := RQ.below h5r ((Kp.refl _).alloc (.cells #[.bool false, .slice none 0 0, .bool false, .slice none 0 0] 42)))
     (try replace h6r := RQ.below h6r ((Kp.refl _).alloc (.cells #[.bool false, .slice none 0 0, .bool false, .slice none 0 0] 42)))
     clear hk
     refine hK.out _ _ ?k23 (fun hHeld23 => ?n23)
     case k23 => ((try dsimp only); first | (with_reducible refine HS12.out _ ?_; with_reducible assumption) | (with_reducible refine HS12.out _ (Kp.drew ?_); with_reducible assumption) | (with_reducible refine' HS12.out _ (Kp.drew (And.right ?_)); rotate_left; with_reducible assumption) | (with_reducible refine' HS12.out _ (Kp.alloc (And.right ?_) _); rotate_left; with_reducible assumption) | (with_reducible refine' HS12.out _ (kp_set4 (And.right ?_) hg7 _ _ _ _); rotate_left; with_reducible assumption) | (exact HS12.out _ (Kp.drew (Kp.alloc hkX _))))
     clear hK K
     (try simp only [Act.put, p1, p2, p3, p4, p5, p6])
     refine wpAnyH_ready (rs := [6]) (by kernel_rfl) (by simp) ?_
     refine AllReadyH.cons rfl (fun K hK => ?_) AllReadyH.nil
     (try simp only [p1, p2, p3])
     go_simp
     have hk := And.right ‹_ ∧ Kp V _›
     refine (TD.out _ hk _ _ _ _ _ _ h5r).mono ?_
     rintro e v6 ⟨N6, n6, o6, M6, p6, s6, rfl, hk1, hk2, hW1, hW2, -, -, hbx⟩
     have hp : Kp V v6 := Kp.trans hk hbx
     have h6r := (show RQ v6 (rp + kq * (rq - rp)) N6 n6 o6 M6 p6 s6 from ⟨hk1, hk2, hW1, hW2⟩)
     (try replace hb7 := Blk.below hb7 hbx hb7.lt)
     clear hk hbx hk1 hk2 hW1 hW2
     have h6z := h6r
     (try (go_wp2_with fail))
     refine hK.out _ _ ?k24 (fun hHeld24 => ?n24)
     case k24 => ((try dsimp only); first | (with_reducible refine HS12.out _ ?_; with_reducible assumption) | (with_reducible refine HS12.out _ (Kp.drew ?_); with_reducible assumption) | (with_reducible refine' HS12.out _ (Kp.drew (And.right ?_)); rotate_left; with_reducible assumption) | (with_reducible refine' HS12.out _ (Kp.alloc (And.right ?_) _); rotate_left; with_reducible assumption) | (with_reducible refine' HS12.out _ (kp_set4 (And.right ?_) hg7 _ _ _ _); rotate_left; with_reducible assumption) | (exact HS12.out _ (Kp.drew (Kp.alloc hkX _))))
     clear hK K
     (try simp only [Act.put, p1, p2, p3, p4, p5, p6])
     refine wpAnyH_ready (rs := [8]) (by kernel_rfl) (by simp) ?_
     refine AllReadyH.cons rfl (fun K hK => ?_) AllReadyH.nil
     have hk := And.right ‹_ ∧ Kp V _›
     obtain ⟨_, _, _, _, i0, i1, i2, i3⟩ := hb7.four
     (try simp only [p1, p2, p3])
     go_simp
     refine hK.out _ _ ?k25 (fun hHeld25 => ?n25)
     case k25 => ((try dsimp only); first | (with_reducible refine HS12.out _ ?_; with_reducible assumption) | (with_reducible refine HS12.out _ (Kp.drew ?_); with_reducible assumption) | (with_reducible refine' HS12.out _ (Kp.drew (And.right ?_)); rotate_left; with_reducible assumption) | (with_reducible refine' HS12.out _ (Kp.alloc (And.right ?_) _); rotate_left; with_reducible assumption) | (with_reducible refine' HS12.out _ (kp_set4 (And.right ?_) hg7 _ _ _ _); rotate_left; with_reducible assumption) | (exact HS12.out _ (Kp.drew (Kp.alloc hkX _))))
     clear hK K
     (try simp only [Act.put, p1, p2, p3, p4, p5, p6])
     refine wpAnyH_done (by kernel_rfl) ?_ _
     (try clear hHeld1)
     (try clear hHeld2)
     (try clear hHeld3)
     (try clear hHeld4)
     (try clear hHeld5)
     (try clear hHeld6)
     (try clear hHeld7)
     (try clear hHeld8)
     (try clear hHeld9)
     (try clear hHeld10)
     (try clear hHeld11)
     (try clear hHeld12)
     (try clear hHeld13)
     (try clear hHeld14)
     (try clear hHeld15)
     (try clear hHeld16)
     (try clear hHeld17)
     (try clear hHeld18)
     (try clear hHeld19)
     (try clear hHeld20)
     (try clear hHeld21)
     (try clear hHeld22)
     (try clear hHeld23)
     (try clear hHeld24)
     (try clear hHeld25)
     (try clear hHeld26)
     (try clear hHeld27)
     (try clear hHeld28)
     (try clear hHeld29)
     (try clear hHeld30)
     (try clear hHeld31)
     (try clear hHeld32)
     (try clear hHeld33)
     (try clear hHeld34)
     (try clear hHeld35)
     (try clear hHeld36)
     (try clear hHeld37)
     (try clear hHeld38)
     (try clear hHeld39)
     (try clear hHeld40)
     (try clear hHeld41)
     (try clear hHeld42)
     (try clear hHeld43)
     (try clear hHeld44)
     (try clear hHeld45)
     (try clear hHeld46)
     (try clear hHeld47)
     (try clear hHeld48)
     (try clear hHeld49)
     (try clear hHeld50)
     (try clear hHeld51)
     (try clear hHeld52)
     (try clear hHeld53)
     (try clear hHeld54)
     (try clear hHeld55)
     (try clear hHeld56)
     (try clear hHeld57)
     (try clear hHeld58)
     (try clear hHeld59)
     (try clear hHeld60)
     have hkY := kp_set4 hk hg7 (.bool (decide (((rp + kq * (rq - rp))).num < 0))) (.slice N6 n6 o6) (.bool false) (.slice M6 p6 s6)
     have hb9 := (show Blk (qst _ _ 0 (decide (((rp + kq * (rq - rp))).num < 0)) false N6 M6 n6 o6 p6 s6) _ 42 #[.bool (decide (((rp + kq * (rq - rp))).num < 0)), .slice N6 n6 o6, .bool false, .slice M6 p6 s6] from hb7.put4)
     have hq9 := RQ.put4 (o := 0) (a := decide (((rp + kq * (rq - rp))).num < 0)) (b := false) (B := N6) (B' := M6) (j := n6) (d := o6) (j' := p6) (d' := s6) h6r hb7 NoInt.four
     obtain ⟨c0, c1, c2, c3, -, -, -, -⟩ := hb9.four
     simp only [qst, Nat.zero_add] at c0 c1 c2 c3
     have HUY := Lib.hid (HU6.out.trans (Below.mono hkY HU6.out.size))
     have hC9 := HCL.out _ (HU6.out.trans (Below.mono hkY HU6.out.size)) _ _ _ _ _ _ _ _ _ (RQ.arg hq9 HLS.out (by decide))
     have hka := hp.alloc (.cells #[.bool (decide (((rp + kq * (rq - rp))).num < 0)), .slice N6 n6 o6, .bool false, .slice M6 p6 s6] 42)
     have HUYb := Lib.hid (HU6.out.trans (Below.mono hka HU6.out.size))
     have hC9b := HCL.out _ (HU6.out.trans (Below.mono hka HU6.out.size)) _ _ _ _ _ _ _ _ _ (RQ.arg (RQ.below h6z ((Kp.refl v6).alloc (.cells #[.bool (decide (((rp + kq * (rq - rp))).num < 0)), .slice N6 n6 o6, .bool false, .slice M6 p6 s6] 42))) HLS.out (by decide))
     clear hka h6z hb9 hq9 hkY hb7 h6r hk i0 i1 i2 i3 hkX HS12 TS TM TD
     generalize balB os bs (rp + kq * (rq - rp)) = cc at *
     have HC9 := Lib.hid hC9
     have HC9b := Lib.hid hC9b
     clear hC9 hC9b
     go_wp2_with fail
     (first | refine HC9.out.mono ?_ | refine HC9b.out.mono ?_)
     rintro e y1 ⟨rfl, hby⟩
     have HF : Hid (Below w.heap.size w y1) := Lib.hid (by first | exact HUY.out.trans (hby.mono HUY.out.size) | exact HUYb.out.trans (hby.mono HUYb.out.size))
     clear hby HC9 HC9b HUY HUYb
     go_wp2
     go_ret
     exact ⟨rfl, HF.out⟩
    exact AllReadyH.nil
   refine AllReadyH.cons rfl (fun K hK => ?_) ?_
   ·(try simp only [p1, p2, p3])
    go_simp
    have hk := And.right ‹_ ∧ Kp V _›
    have hg7 := Below.size hk
    have hb7 := blk_here hk 42 #[.bool false, .slice none 0 0, .bool false, .slice none 0 0]
    (try simp only [sz_drew] at hb7 hg7)
    (try replace h4r := RQ.below h4r ((Kp.refl _).alloc (.cells #[.bool false, .slice none 0 0, .bool false, .slice none 0 0] 42)))
    (try replace h5r := RQ.below h5r ((Kp.refl _).alloc (.cells #[.bool false, .slice none 0 0, .bool false, .slice none 0 0] 42)))
    (try replace h6r := RQ.below h6r ((Kp.refl _).alloc (.cells #[.bool false, .slice none 0 0, .bool false, .slice none 0 0] 42)))
    clear hk
    refine hK.out _ _ ?k26 (fun hHeld26 => ?n26)
    case k26 => ((try dsimp only); first | (with_reducible refine HS12.out _ ?_; with_reducible assumption) | (with_reducible refine HS12.out _ (Kp.drew ?_); with_reducible assumption) | (with_reducible refine' HS12.out _ (Kp.drew (And.right ?_)); rotate_left; with_reducible assumption) | (with_reducible refine' HS12.out _ (Kp.alloc (And.right ?_) _); rotate_left; with_reducible assumption) | (with_reducible refine' HS12.out _ (kp_set4 (And.right ?_) hg7 _ _ _ _); rotate_left; with_reducible assumption) | (exact HS12.out _ (Kp.drew (Kp.alloc hkX _))))
    clear hK K
    (try simp only [Act.put, p1, p2, p3, p4, p5, p6])
    refine wpAnyH_ready (rs := [5]) (by kernel_rfl) (by simp) ?_
    refine AllReadyH.cons rfl (fun K hK => ?_) AllReadyH.nil
    (try simp only [p1, p2, p3])
    go_simp
    have hk := And.right ‹_ ∧ Kp V _›
    refine (TM.out _ hk _ _ _ _ _ _ h4r).mono ?_
    rintro e v5 ⟨N5, n5, o5, M5, p5, s5, rfl, hk1, hk2, hW1, hW2, -, -, hbx⟩
    have hp : Kp V v5 := Kp.trans hk hbx
    have h5r := (show RQ v5 (kq * (rq - rp)) N5 n5 o5 M5 p5 s5 from ⟨hk1, hk2, hW1, hW2⟩)
    (try replace hb7 := Blk.below hb7 hbx hb7.lt)
    clear hk hbx hk1 hk2 hW1 hW2
    (try (go_wp2_with fail))
    refine hK.out _ _ ?k27 (fun hHeld27 => ?n27)
    case k27 => ((try dsimp only); first | (with_reducible refine HS12.out _ ?_; with_reducible assumption) | (with_reducible refine HS12.out _ (Kp.drew ?_); with_reducible assumption) | (with_reducible refine' HS12.out _ (Kp.drew (And.right ?_)); rotate_left; with_reducible assumption) | (with_reducible refine' HS12.out _ (Kp.alloc (And.right ?_) _); rotate_left; with_reducible assumption) | (with_reducible refine' HS12.out _ (kp_set4 (And.right ?_) hg7 _ _ _ _); rotate_left; with_reducible assumption) | (exact HS12.out _ (Kp.drew (Kp.alloc hkX _))))
    clear hK K
    (try simp only [Act.put, p1, p2, p3, p4, p5, p6])
    refine wpAnyH_ready (rs := [6]) (by kernel_rfl) (by simp) ?_
    refine AllReadyH.cons rfl (fun K hK => ?_) AllReadyH.nil
    (try simp only [p1, p2, p3])
    go_simp
    have hk := And.right ‹_ ∧ Kp V _›
    refine (TD.out _ hk _ _ _ _ _ _ h5r).mono ?_
    rintro e v6 ⟨N6, n6, o6, M6, p6, s6, rfl, hk1, hk2, hW1, hW2, -, -, hbx⟩
    have hp : Kp V v6 := Kp.trans hk hbx
    have h6r := (show RQ v6 (rp + kq * (rq - rp)) N6 n6 o6 M6 p6 s6 from ⟨hk1, hk2, hW1, hW2⟩)
    (try replace hb7 := Blk.below hb7 hbx hb7.lt)
    clear hk hbx hk1 hk2 hW1 hW2
    have h6z := h6r
    (try (go_wp2_with fail))
    refine hK.out _ _ ?k28 (fun hHeld28 => ?n28)
    case k28 => ((try dsimp only); first | (with_reducible refine HS12.out _ ?_; with_reducible assumption) | (with_reducible refine HS12.out _ (Kp.drew ?_); with_reducible assumption) | (with_reducible refine' HS12.out _ (Kp.drew (And.right ?_)); rotate_left; with_reducible assumption) | (with_reducible refine' HS12.out _ (Kp.alloc (And.right ?_) _); rotate_left; with_reducible assumption) | (with_reducible refine' HS12.out _ (kp_set4 (And.right ?_) hg7 _ _ _ _); rotate_left; with_reducible assumption) | (exact HS12.out _ (Kp.drew (Kp.alloc hkX _))))
    clear hK K
    (try simp only [Act.put, p1, p2, p3, p4, p5, p6])
    refine wpAnyH_ready (rs := [8]) (by kernel_rfl) (by simp) ?_
    refine AllReadyH.cons rfl (fun K hK => ?_) AllReadyH.nil
    have hk := And.right ‹_ ∧ Kp V _›
    obtain ⟨_, _, _, _, i0, i1, i2, i3⟩ := hb7.four
    (try simp only [p1, p2, p3])
    go_simp
    refine hK.out _ _ ?k29 (fun hHeld29 => ?n29)
    case k29 => ((try dsimp only); first | (with_reducible refine HS12.out _ ?_; with_reducible assumption) | (with_reducible refine HS12.out _ (Kp.drew ?_); with_reducible assumption) | (with_reducible refine' HS12.out _ (Kp.drew (And.right ?_)); rotate_left; with_reducible assumption) | (with_reducible refine' HS12.out _ (Kp.alloc (And.right ?_) _); rotate_left; with_reducible assumption) | (with_reducible refine' HS12.out _ (kp_set4 (And.right ?_) hg7 _ _ _ _); rotate_left; with_reducible assumption) | (exact HS12.out _ (Kp.drew (Kp.alloc hkX _))))
    clear hK K
    (try simp only [Act.put, p1, p2, p3, p4, p5, p6])
    refine wpAnyH_done (by kernel_rfl) ?_ _
    (try clear hHeld1)
    (try clear hHeld2)
    (try clear hHeld3)
    (try clear hHeld4)
    (try clear hHeld5)
    (try clear hHeld6)
    (try clear hHeld7)
    (try clear hHeld8)
    (try clear hHeld9)
    (try clear hHeld10)
    (try clear hHeld11)
    (try clear hHeld12)
    (try clear hHeld13)
    (try clear hHeld14)
    (try clear hHeld15)
    (try clear hHeld16)
    (try clear hHeld17)
    (try clear hHeld18)
    (try clear hHeld19)
    (try clear hHeld20)
    (try clear hHeld21)
    (try clear hHeld22)
    (try clear hHeld23)
    (try clear hHeld24)
    (try clear hHeld25)
    (try clear hHeld26)
    (try clear hHeld27)
    (try clear hHeld28)
    (try clear hHeld29)
    (try clear hHeld30)
    (try clear hHeld31)
    (try clear hHeld32)
    (try clear hHeld33)
    (try clear hHeld34)
    (try clear hHeld35)
    (try clear hHeld36)
    (try clear hHeld37)
    (try clear hHeld38)
    (try clear hHeld39)
    (try clear hHeld40)
    (try clear hHeld41)
    (try clear hHeld42)
    (try clear hHeld43)
    (try clear hHeld44)
    (try clear hHeld45)
    (try clear hHeld46)
    (try clear hHeld47)
    (try clear hHeld48)
    (try clear hHeld49)
    (try clear hHeld50)
    (try clear hHeld51)
    (try clear hHeld52)
    (try clear hHeld53)
    (try clear hHeld54)
    (try clear hHeld55)
    (try clear hHeld56)
    (try clear hHeld57)
    (try clear hHeld58)
    (try clear hHeld59)
    (try clear hHeld60)
    have hkY := kp_set4 hk hg7 (.bool (decide (((rp + kq * (rq - rp))).num < 0))) (.slice N6 n6 o6) (.bool false) (.slice M6 p6 s6)
    have hb9 := (show Blk (qst _ _ 0 (decide (((rp + kq * (rq - rp))).num < 0)) false N6 M6 n6 o6 p6 s6) _ 42 #[.bool (decide (((rp + kq * (rq - rp))).num < 0)), .slice N6 n6 o6, .bool false, .slice M6 p6 s6] from hb7.put4)
    have hq9 := RQ.put4 (o := 0) (a := decide (((rp + kq * (rq - rp))).num < 0)) (b := false) (B := N6) (B' := M6) (j := n6) (d := o6) (j' := p6) (d' := s6) h6r hb7 NoInt.four
    obtain ⟨c0, c1, c2, c3, -, -, -, -⟩ := hb9.four
    simp only [qst, Nat.zero_add] at c0 c1 c2 c3
    have HUY := Lib.hid (HU6.out.trans (Below.mono hkY HU6.out.size))
    have hC9 := HCL.out _ (HU6.out.trans (Below.mono hkY HU6.out.size)) _ _ _ _ _ _ _ _ _ (RQ.arg hq9 HLS.out (by decide))
    have hka := hp.alloc (.cells #[.bool (decide (((rp + kq * (rq - rp))).num < 0)), .slice N6 n6 o6, .bool false, .slice M6 p6 s6] 42)
    have HUYb := Lib.hid (HU6.out.trans (Below.mono hka HU6.out.size))
    have hC9b := HCL.out _ (HU6.out.trans (Below.mono hka HU6.out.size)) _ _ _ _ _ _ _ _ _ (RQ.arg (RQ.below h6z ((Kp.refl v6).alloc (.cells #[.bool (decide (((rp + kq * (rq - rp))).num < 0)), .slice N6 n6 o6, .bool false, .slice M6 p6 s6] 42))) HLS.out (by decide))
    clear hka h6z hb9 hq9 hkY hb7 h6r hk i0 i1 i2 i3 hkX HS12 TS TM TD
    generalize balB os bs (rp + kq * (rq - rp)) = cc at *
    have HC9 := Lib.hid hC9
    have HC9b := Lib.hid hC9b
    clear hC9 hC9b
    go_wp2_with fail
    (first | refine HC9.out.mono ?_ | refine HC9b.out.mono ?_)
    rintro e y1 ⟨rfl, hby⟩
    have HF : Hid (Below w.heap.size w y1) := Lib.hid (by first | exact HUY.out.trans (hby.mono HUY.out.size) | exact HUYb.out.trans (hby.mono HUYb.out.size))
    clear hby HC9 HC9b HUY HUYb
    go_wp2
    go_ret
    exact ⟨rfl, HF.out⟩
   exact AllReadyH.nil
  refine AllReadyH.cons rfl (fun K hK => ?_) ?_
  ·(try simp only [p1, p2, p3])
   go_simp
   have hk := And.right ‹_ ∧ Kp V _›
   have hg7 := Below.size hk
   have hb7 := blk_here hk 42 #[.bool false, .slice none 0 0, .bool false, .slice none 0 0]
   (try simp only [sz_drew] at hb7 hg7)
   (try replace h4r := RQ.below h4r ((Kp.refl _).alloc (.cells #[.bool false, .slice none 0 0, .bool false, .slice none 0 0] 42)))
   (try replace h5r := RQ.below h5r ((Kp.refl _).alloc (.cells #[.bool false, .slice none 0 0, .bool false, .slice none 0 0] 42)))
   (try replace h6r := RQ.below h6r ((Kp.refl _).alloc (.cells #[.bool false, .slice none 0 0, .bool false, .slice none 0 0] 42)))
   clear hk
   refine hK.out _ _ ?k30 (fun hHeld30 => ?n30)
   case k30 => ((try dsimp only); first | (with_reducible refine HS12.out _ ?_; with_reducible assumption) | (with_reducible refine HS12.out _ (Kp.drew ?_); with_reducible assumption) | (with_reducible refine' HS12.out _ (Kp.drew (And.right ?_)); rotate_left; with_reducible assumption) | (with_reducible refine' HS12.out _ (Kp.alloc (And.right ?_) _); rotate_left; with_reducible assumption) | (with_reducible refine' HS12.out _ (kp_set4 (And.right ?_) hg7 _ _ _ _); rotate_left; with_reducible assumption) | (exact HS12.out _ (Kp.drew (Kp.alloc hkX _))))
   clear hK K
   (try simp only [Act.put, p1, p2, p3, p4, p5, p6])
   refine wpAnyH_ready (rs := [4]) (by kernel_rfl) (by simp) ?_
   refine AllReadyH.cons rfl (fun K hK => ?_) AllReadyH.nil
   (try simp only [p1, p2, p3])
   go_simp
   have hk := And.right ‹_ ∧ Kp V _›
   refine (TS.out _ hk).mono ?_
   rintro e v4 ⟨N4, n4, o4, M4, p4, s4, rfl, hk1, hk2, hW1, hW2, -, -, hbx⟩
   have hp : Kp V v4 := Kp.trans hk hbx
   have h4r := (show RQ v4 (rq - rp) N4 n4 o4 M4 p4 s4 from ⟨hk1, hk2, hW1, hW2⟩)
   (try replace hb7 := Blk.below hb7 hbx hb7.lt)
   clear hk hbx hk1 hk2 hW1 hW2
   (try (go_wp2_with fail))
   refine hK.out _ _ ?k31 (fun hHeld31 => ?n31)
   case k31 => ((try dsimp only); first | (with_reducible refine HS12.out _ ?_; with_reducible assumption) | (with_reducible refine HS12.out _ (Kp.drew ?_); with_reducible assumption) | (with_reducible refine' HS12.out _ (Kp.drew (And.right ?_)); rotate_left; with_reducible assumption) | (with_reducible refine' HS12.out _ (Kp.alloc (And.right ?_) _); rotate_left; with_reducible assumption) | (with_reducible refine' HS12.out _ (kp_set4 (And.right ?_) hg7 _ _ _ _); rotate_left; with_reducible assumption) | (exact HS12.out _ (Kp.drew (Kp.alloc hkX _))))
   clear hK K
   (try simp only [Act.put, p1, p2, p3, p4, p5, p6])
   refine wpAnyH_ready (rs := [5]) (by kernel_rfl) (by simp) ?_
   refine AllReadyH.cons rfl (fun K hK => ?_) AllReadyH.nil
   (try simp only [p1, p2, p3])
   go_simp
   have hk := And.right ‹_ ∧ Kp V _›
   refine (TM.out _ hk _ _ _ _ _ _ h4r).mono ?_
   rintro e v5 ⟨N5, n5, o5, M5, p5, s5, rfl, hk1, hk2, hW1, hW2, -, -, hbx⟩
   have hp : Kp V v5 := Kp.trans hk hbx
   have h5r := (show RQ v5 (kq * (rq - rp)) N5 n5 o5 M5 p5 s5 from ⟨hk1, hk2, hW1, hW2⟩)
   (try replace hb7 := Blk.below hb7 hbx hb7.lt)
   clear hk hbx hk1 hk2 hW1 hW2
   (try (go_wp2_with fail))
   refine hK.out _ _ ?k32 (fun hHeld32 => ?n32)
   case k32 => ((try dsimp only); first | (with_reducible refine HS12.out _ ?_; with_reducible assumption) | (with_reducible refine HS12.out _ (Kp.drew ?_); with_reducible assumption) | (with_reducible refine' HS12.out _ (Kp.drew (And.right ?_)); rotate_left; with_reducible assumption) | (with_reducible refine' HS12.out _ (Kp.alloc (And.right ?_) _); rotate_left; with_reducible assumption) | (with_reducible refine' HS12.out _ (kp_set4 (And.right ?_) hg7 _ _ _ _); rotate_left; with_reducible assumption) | (exact HS12.out _ (Kp.drew (Kp.alloc hkX _))))
   clear hK K
   (try simp only [Act.put, p1, p2, p3, p4, p5, p6])
   refine wpAnyH_ready (rs := [6]) (by kernel_rfl) (by simp) ?_
   refine AllReadyH.cons rfl (fun K hK => ?_) AllReadyH.nil
   (try simp only [p1, p2, p3])
   go_simp
   have hk := And.right ‹_ ∧ Kp V _›
   refine (TD.out _ hk _ _ _ _ _ _ h5r).mono ?_
   rintro e v6 ⟨N6, n6, o6, M6, p6, s6, rfl, hk1, hk2, hW1, hW2, -, -, hbx⟩
   have hp : Kp V v6 := Kp.trans hk hbx
   have h6r := (show RQ v6 (rp + kq * (rq - rp)) N6 n6 o6 M6 p6 s6 from ⟨hk1, hk2, hW1, hW2⟩)
   (try replace hb7 := Blk.below hb7 hbx hb7.lt)
   clear hk hbx hk1 hk2 hW1 hW2
   have h6z := h6r
   (try (go_wp2_with fail))
   refine hK.out _ _ ?k33 (fun hHeld33 => ?n33)
   case k33 => ((try dsimp only); first | (with_reducible refine HS12.out _ ?_; with_reducible assumption) | (with_reducible refine HS12.out _ (Kp.drew ?_); with_reducible assumption) | (with_reducible refine' HS12.out _ (Kp.drew (And.right ?_)); rotate_left; with_reducible assumption) | (with_reducible refine' HS12.out _ (Kp.alloc (And.right ?_) _); rotate_left; with_reducible assumption) | (with_reducible refine' HS12.out _ (kp_set4 (And.right ?_) hg7 _ _ _ _); rotate_left; with_reducible assumption) | (exact HS12.out _ (Kp.drew (Kp.alloc hkX _))))
   clear hK K
   (try simp only [Act.put, p1, p2, p3, p4, p5, p6])
   refine wpAnyH_ready (rs := [8]) (by kernel_rfl) (by simp) ?_
   refine AllReadyH.cons rfl (fun K hK => ?_) AllReadyH.nil
   have hk := And.right ‹_ ∧ Kp V _›
   obtain ⟨_, _, _, _, i0, i1, i2, i3⟩ := hb7.four
   (try simp only [p1, p2, p3])
   go_simp
   refine hK.out _ _ ?k34 (fun hHeld34 => ?n34)
   case k34 => ((try dsimp only); first | (with_reducible refine HS12.out _ ?_; with_reducible assumption) | (with_reducible refine HS12.out _ (Kp.drew ?_); with_reducible assumption) | (with_reducible refine' HS12.out _ (Kp.drew (And.right ?_)); rotate_left; with_reducible assumption) | (with_reducible refine' HS12.out _ (Kp.alloc (And.right ?_) _); rotate_left; with_reducible assumption) | (with_reducible refine' HS12.out _ (kp_set4 (And.right ?_) hg7 _ _ _ _); rotate_left; with_reducible assumption) | (exact HS12.out _ (Kp.drew (Kp.alloc hkX _))))
   clear hK K
   (try simp only [Act.put, p1, p2, p3, p4, p5, p6])
   refine wpAnyH_done (by kernel_rfl) ?_ _
   (try clear hHeld1)
   (try clear hHeld2)
   (try clear hHeld3)
   (try clear hHeld4)
   (try clear hHeld5)
   (try clear hHeld6)
   (try clear hHeld7)
   (try clear hHeld8)
   (try clear hHeld9)
   (try clear hHeld10)
   (try clear hHeld11)
   (try clear hHeld12)
   (try clear hHeld13)
   (try clear hHeld14)
   (try clear hHeld15)
   (try clear hHeld16)
   (try clear hHeld17)
   (try clear hHeld18)
   (try clear hHeld19)
   (try clear hHeld20)
   (try clear hHeld21)
   (try clear hHeld22)
   (try clear hHeld23)
   (try clear hHeld24)
   (try clear hHeld25)
   (try clear hHeld26)
   (try clear hHeld27)
   (try clear hHeld28)
   (try clear hHeld29)
   (try clear hHeld30)
   (try clear hHeld31)
   (try clear hHeld32)
   (try clear hHeld33)
   (try clear hHeld34)
   (try clear hHeld35)
   (try clear hHeld36)
   (try clear hHeld37)
   (try clear hHeld38)
   (try clear hHeld39)
   (try clear hHeld40)
   (try clear hHeld41)
   (try clear hHeld42)
   (try clear hHeld43)
   (try clear hHeld44)
   (try clear hHeld45)
   (try clear hHeld46)
   (try clear hHeld47)
   (try clear hHeld48)
   (try clear hHeld49)
   (try clear hHeld50)
   (try clear hHeld51)
   (try clear hHeld52)
   (try clear hHeld53)
   (try clear hHeld54)
   (try clear hHeld55)
   (try clear hHeld56)
   (try clear hHeld57)
   (try clear hHeld58)
   (try clear hHeld59)
   (try clear hHeld60)
   have hkY := kp_set4 hk hg7 (.bool (decide (((rp + kq * (rq - rp))).num < 0))) (.slice N6 n6 o6) (.bool false) (.slice M6 p6 s6)
   have hb9 := (show Blk (qst _ _ 0 (decide (((rp + kq * (rq - rp))).num < 0)) false N6 M6 n6 o6 p6 s6) _ 42 #[.bool (decide (((rp + kq * (rq - rp))).num < 0)), .slice N6 n6 o6, .bool false, .slice M6 p6 s6] from hb7.put4)
   have hq9 := RQ.put4 (o := 0) (a := decide (((rp + kq * (rq - rp))).num < 0)) (b := false) (B := N6) (B' := M6) (j := n6) (d := o6) (j' := p6) (d' := s6) h6r hb7 NoInt.four
   obtain ⟨c0, c1, c2, c3, -, -, -, -⟩ := hb9.four
   simp only [qst, Nat.zero_add] at c0 c1 c2 c3
   have HUY := Lib.hid (HU6.out.trans (Below.mono hkY HU6.out.size))
   have hC9 := HCL.out _ (HU6.out.trans (Below.mono hkY HU6.out.size)) _ _ _ _ _ _ _ _ _ (RQ.arg hq9 HLS.out (by decide))
   have hka := hp.alloc (.cells #[.bool (decide (((rp + kq * (rq - rp))).num < 0)), .slice N6 n6 o6, .bool false, .slice M6 p6 s6] 42)
   have HUYb := Lib.hid (HU6.out.trans (Below.mono hka HU6.out.size))
   have hC9b := HCL.out _ (HU6.out.trans (Below.mono hka HU6.out.size)) _ _ _ _ _ _ _ _ _ (RQ.arg (RQ.below h6z ((Kp.refl v6).alloc (.cells #[.bool (decide (((rp + kq * (rq - rp))).num < 0)), .slice N6 n6 o6, .bool false, .slice M6 p6 s6] 42))) HLS.out (by decide))
   clear hka h6z hb9 hq9 hkY hb7 h6r hk i0 i1 i2 i3 hkX HS12 TS TM TD
   generalize balB os bs (rp + kq * (rq - rp)) = cc at *
   have HC9 := Lib.hid hC9
   have HC9b := Lib.hid hC9b
   clear hC9 hC9b
   go_wp2_with fail
   (first | refine HC9.out.mono ?_ | refine HC9b.out.mono ?_)
   rintro e y1 ⟨rfl, hby⟩
   have HF : Hid (Below w.heap.size w y1) := Lib.hid (by first | exact HUY.out.trans (hby.mono HUY.out.size) | exact HUYb.out.trans (hby.mono HUYb.out.size))
   clear hby HC9 HC9b HUY HUYb
   go_wp2
   go_ret
   exact ⟨rfl, HF.out⟩
  exact AllReadyH.nil
 ·have TA := Lib.hid (fun (W : World) (hW : Kp V W) => abs_s (s := 7) (by decide) (HP.out.below (HU6.out.trans (Below.mono hW HU6.out.size))))
  have TB := Lib.hid (fun (W : World) (N : Option Addr) (n o : Nat) (M : Option Addr) (p s : Nat) (h : RQ W pr N n o M p s) => abs_s (s := 3) (by decide) (h.qs HZ3.out (by decide)))
  have TC := Lib.hid (fun (W : World) (N : Option Addr) (n o : Nat) (M : Option Addr) (p s : Nat) (N' : Option Addr) (n' o' : Nat) (M' : Option Addr) (p' s' : Nat) (h : RQ W (absQ rp) N n o M p s) (h' : RQ W (absQ pr) N' n' o' M' p' s') => cmp_s (s := 7) (h.qs HP.out.ls.abs (by decide)) (h'.qs (Ls.mono HZ3.out.abs (by decide)) (by decide)))
  have hnr := HNR.out rfl
  generalize cmpQ (absQ rp) (absQ pr) = cv at *
  have HS10 := Lib.hid (show ∀ w', Kp V w' → (w'.cell? ⟨w.heap.size, 0, none⟩ = some (.bool an) ∧ w'.cell? ⟨w.heap.size, 1, none⟩ = some (.slice pA pk pc) ∧ w'.cell? ⟨w.heap.size, 2, none⟩ = some (.bool an') ∧ w'.cell? ⟨w.heap.size, 3, none⟩ = some (.slice pB pj pd) ∧ w'.cell? ⟨gx, 1, none⟩ = some (.int .i64 pz)) ∧ Kp V w' from fun w' hk => ⟨⟨(Kp.blk hk HBXA.out.1).cell 0, (Kp.blk hk HBXA.out.1).cell 1, (Kp.blk hk HBXA.out.1).cell 2, (Kp.blk hk HBXA.out.1).cell 3, (Kp.blk hk HBO6.out).cell 1⟩, hk⟩)
  refine wp_region_held_drew (S := fun w' => (w'.cell? ⟨w.heap.size, 0, none⟩ = some (.bool an) ∧ w'.cell? ⟨w.heap.size, 1, none⟩ = some (.slice pA pk pc) ∧ w'.cell? ⟨w.heap.size, 2, none⟩ = some (.bool an') ∧ w'.cell? ⟨w.heap.size, 3, none⟩ = some (.slice pB pj pd) ∧ w'.cell? ⟨gx, 1, none⟩ = some (.int .i64 pz)) ∧ Kp V w') (by kernel_rfl) (HS10.out _ (Kp.drew (Kp.refl V))) (fun hHeld => ?_)
  refine' tkk 0 rfl (by kernel_rfl) (fun _ _ _ h => h) (.inl ⟨by rfl, ?_⟩) (by assumption) ?_; rotate_left
  ·(intro w hSw; (try dsimp only at hSw); (try simp only [p1, p2, p3]); go_simp; first | done | with_reducible rfl)
  (try simp only [Act.put, p1, p2, p3, p4, p5, p6])
  refine' tkk 1 rfl (by kernel_rfl) (fun _ _ _ h => h) (.inl ⟨by rfl, ?_⟩) (by assumption) ?_; rotate_left
  ·(intro w hSw; (try dsimp only at hSw); (try simp only [p1, p2, p3]); go_simp; first | done | with_reducible rfl)
  (try simp only [Act.put, p1, p2, p3, p4, p5, p6])
  refine' tkk 2 rfl (by kernel_rfl) (fun _ _ _ h => h) (.inl ⟨by rfl, ?_⟩) (by assumption) ?_; rotate_left
  ·(intro w hSw; (try dsimp only at hSw); (try simp only [p1, p2, p3]); go_simp; first | done | with_reducible rfl)
  (try simp only [Act.put, p1, p2, p3, p4, p5, p6])
  refine' tkk 4 rfl (by kernel_rfl) (fun _ _ _ h => h) (.inl ⟨by rfl, ?_⟩) (by assumption) ?_; rotate_left
  ·(intro w hSw; (try dsimp only at hSw); (try simp only [p1, p2, p3]); go_simp; first | done | with_reducible rfl)
  (try simp only [Act.put, p1, p2, p3, p4, p5, p6])
  refine' tkk 5 rfl (by kernel_rfl) (fun _ _ _ h => h) (.inl ⟨by rfl, ?_⟩) (by assumption) ?_; rotate_left
  ·(intro w hSw; (try dsimp only at hSw); (try simp only [p1, p2, p3]); go_simp; first | done | with_reducible rfl)
  (try simp only [Act.put, p1, p2, p3, p4, p5, p6])
  refine wpAnyH_ready (rs := [3]) (by kernel_rfl) (by simp) ?_
  refine AllReadyH.cons rfl (fun K hK => ?_) AllReadyH.nil
  (try simp only [p1, p2, p3])
  go_simp
  have hk := And.right ‹_ ∧ Kp V _›
  refine (TA.out _ hk).mono ?_
  rintro e v3 ⟨N3, n3, o3, M3, p3, s3, rfl, hk1, hk2, hW1, hW2, -, -, hbx⟩
  have hp : Kp V v3 := Kp.trans hk hbx
  have h3r := (show RQ v3 (absQ rp) N3 n3 o3 M3 p3 s3 from ⟨hk1, hk2, hW1, hW2⟩)
  (try replace hb7 := Blk.below hb7 hbx hb7.lt)
  clear hk hbx hk1 hk2 hW1 hW2
  (try (go_wp2_with fail))
  refine hK.out _ _ ?k35 (fun hHeld35 => ?n35)
  case k35 => ((try dsimp only); first | (with_reducible refine HS10.out _ ?_; with_reducible assumption) | (with_reducible refine HS10.out _ (Kp.drew ?_); with_reducible assumption) | (with_reducible refine' HS10.out _ (Kp.drew (And.right ?_)); rotate_left; with_reducible assumption) | (with_reducible refine' HS10.out _ (Kp.alloc (And.right ?_) _); rotate_left; with_reducible assumption) | (with_reducible refine' HS10.out _ (kp_set4 (And.right ?_) hg7 _ _ _ _); rotate_left; with_reducible assumption) | (exact HS10.out _ (Kp.drew (Kp.alloc hkX _))))
  clear hK K
  (try simp only [Act.put, p1, p2, p3, p4, p5, p6])
  refine wpAnyH_ready (rs := [6]) (by kernel_rfl) (by simp) ?_
  refine AllReadyH.cons rfl (fun K hK => ?_) AllReadyH.nil
  (try simp only [p1, p2, p3])
  go_simp
  have hk := And.right ‹_ ∧ Kp V _›
  refine (HFI.out _).mono ?_
  rintro e v6 ⟨N6, n6, o6, M6, p6, s6, rfl, hk1, hk2, hW1, hW2, -, -, hbx⟩
  have hp : Kp V v6 := Kp.trans hk hbx
  have h6r := (show RQ v6 pr N6 n6 o6 M6 p6 s6 from ⟨hk1, hk2, hW1, hW2⟩)
  (try replace hb7 := Blk.below hb7 hbx hb7.lt)
  (try replace h3r := RQ.below h3r hbx)
  clear hk hbx hk1 hk2 hW1 hW2
  (try (go_wp2_with fail))
  refine hK.out _ _ ?k36 (fun hHeld36 => ?n36)
  case k36 => ((try dsimp only); first | (with_reducible refine HS10.out _ ?_; with_reducible assumption) | (with_reducible refine HS10.out _ (Kp.drew ?_); with_reducible assumption) | (with_reducible refine' HS10.out _ (Kp.drew (And.right ?_)); rotate_left; with_reducible assumption) | (with_reducible refine' HS10.out _ (Kp.alloc (And.right ?_) _); rotate_left; with_reducible assumption) | (with_reducible refine' HS10.out _ (kp_set4 (And.right ?_) hg7 _ _ _ _); rotate_left; with_reducible assumption) | (exact HS10.out _ (Kp.drew (Kp.alloc hkX _))))
  clear hK K
  (try simp only [Act.put, p1, p2, p3, p4, p5, p6])
  refine wpAnyH_ready (rs := [7]) (by kernel_rfl) (by simp) ?_
  refine AllReadyH.cons rfl (fun K hK => ?_) AllReadyH.nil
  (try simp only [p1, p2, p3])
  go_simp
  have hk := And.right ‹_ ∧ Kp V _›
  refine (TB.out _ _ _ _ _ _ _ h6r).mono ?_
  rintro e v7 ⟨N7, n7, o7, M7, p7, s7, rfl, hk1, hk2, hW1, hW2, -, -, hbx⟩
  have hp : Kp V v7 := Kp.trans hk hbx
  have h7r := (show RQ v7 (absQ pr) N7 n7 o7 M7 p7 s7 from ⟨hk1, hk2, hW1, hW2⟩)
  (try replace hb7 := Blk.below hb7 hbx hb7.lt)
  (try replace h3r := RQ.below h3r hbx)
  clear hk hbx hk1 hk2 hW1 hW2
  (try (go_wp2_with fail))
  refine hK.out _ _ ?k37 (fun hHeld37 => ?n37)
  case k37 => ((try dsimp only); first | (with_reducible refine HS10.out _ ?_; with_reducible assumption) | (with_reducible refine HS10.out _ (Kp.drew ?_); with_reducible assumption) | (with_reducible refine' HS10.out _ (Kp.drew (And.right ?_)); rotate_left; with_reducible assumption) | (with_reducible refine' HS10.out _ (Kp.alloc (And.right ?_) _); rotate_left; with_reducible assumption) | (with_reducible refine' HS10.out _ (kp_set4 (And.right ?_) hg7 _ _ _ _); rotate_left; with_reducible assumption) | (exact HS10.out _ (Kp.drew (Kp.alloc hkX _))))
  clear hK K
  (try simp only [Act.put, p1, p2, p3, p4, p5, p6])
  refine wpAnyH_ready (rs := [8]) (by kernel_rfl) (by simp) ?_
  refine AllReadyH.cons rfl (fun K hK => ?_) AllReadyH.nil
  (try simp only [p1, p2, p3])
  go_simp
  have hk := And.right ‹_ ∧ Kp V _›
  refine (TC.out _ _ _ _ _ _ _ _ _ _ _ _ _ h3r h7r).mono ?_
  rintro e v8 ⟨rfl, hbx⟩
  have hkX := Kp.trans hk hbx
  clear hk hbx h3r h6r h7r
  (try (go_wp2_with fail))
  refine hK.out _ _ ?k38 (fun hHeld38 => ?n38)
  case k38 => ((try dsimp only); first | (with_reducible refine HS10.out _ ?_; with_reducible assumption) | (with_reducible refine HS10.out _ (Kp.drew ?_); with_reducible assumption) | (with_reducible refine' HS10.out _ (Kp.drew (And.right ?_)); rotate_left; with_reducible assumption) | (with_reducible refine' HS10.out _ (Kp.alloc (And.right ?_) _); rotate_left; with_reducible assumption) | (with_reducible refine' HS10.out _ (kp_set4 (And.right ?_) hg7 _ _ _ _); rotate_left; with_reducible assumption) | (exact HS10.out _ (Kp.drew (Kp.alloc hkX _))))
  clear hK K
  (try simp only [Act.put, p1, p2, p3, p4, p5, p6])
  refine' tkk 9 rfl (by kernel_rfl) (fun _ _ _ h => h) (.inl ⟨by rfl, ?_⟩) (by assumption) ?_; rotate_left
  ·(intro w hSw; (try dsimp only at hSw); (try simp only [p1, p2, p3]); go_simp; first | done | with_reducible rfl)
  (try simp only [Act.put, p1, p2, p3, p4, p5, p6])
  refine' tkk 10 rfl (by kernel_rfl) (fun _ _ _ h => h) (.inl ⟨by rfl, ?_⟩) (by assumption) ?_; rotate_left
  ·(intro w hSw; (try dsimp only at hSw); (try simp only [p1, p2, p3]); go_simp; first | done | with_reducible rfl)
  (try simp only [Act.put, p1, p2, p3, p4, p5, p6])
  refine wpAnyH_done (by kernel_rfl) ?_ _
  (try clear hHeld1)
  (try clear hHeld2)
  (try clear hHeld3)
  (try clear hHeld4)
  (try clear hHeld5)
  (try clear hHeld6)
  (try clear hHeld7)
  (try clear hHeld8)
  (try clear hHeld9)
  (try clear hHeld10)
  (try clear hHeld11)
  (try clear hHeld12)
  (try clear hHeld13)
  (try clear hHeld14)
  (try clear hHeld15)
  (try clear hHeld16)
  (try clear hHeld17)
  (try clear hHeld18)
  (try clear hHeld19)
  (try clear hHeld20)
  (try clear hHeld21)
  (try clear hHeld22)
  (try clear hHeld23)
  (try clear hHeld24)
  (try clear hHeld25)
  (try clear hHeld26)
  (try clear hHeld27)
  (try clear hHeld28)
  (try clear hHeld29)
  (try clear hHeld30)
  (try clear hHeld31)
  (try clear hHeld32)
  (try clear hHeld33)
  (try clear hHeld34)
  (try clear hHeld35)
  (try clear hHeld36)
  (try clear hHeld37)
  (try clear hHeld38)
  (try clear hHeld39)
  (try clear hHeld40)
  (try clear hHeld41)
  (try clear hHeld42)
  (try clear hHeld43)
  (try clear hHeld44)
  (try clear hHeld45)
  (try clear hHeld46)
  (try clear hHeld47)
  (try clear hHeld48)
  (try clear hHeld49)
  (try clear hHeld50)
  (try clear hHeld51)
  (try clear hHeld52)
  (try clear hHeld53)
  (try clear hHeld54)
  (try clear hHeld55)
  (try clear hHeld56)
  (try clear hHeld57)
  (try clear hHeld58)
  (try clear hHeld59)
  (try clear hHeld60)
  clear HS10 TA TB TC hHeld
  go_wp2_with fail
  have HS12 := Lib.hid (show ∀ w', Kp V w' → (w'.cell? ⟨w.heap.size, 0, none⟩ = some (.bool an) ∧ w'.cell? ⟨w.heap.size, 1, none⟩ = some (.slice pA pk pc) ∧ w'.cell? ⟨w.heap.size, 2, none⟩ = some (.bool an') ∧ w'.cell? ⟨w.heap.size, 3, none⟩ = some (.slice pB pj pd) ∧ w'.cell? ⟨gk, 0, none⟩ = some (.bool (decide (kq.num < 0))) ∧ w'.cell? ⟨gk, 1, none⟩ = some (.slice K1 l1 m1) ∧ w'.cell? ⟨gk, 2, none⟩ = some (.bool false) ∧ w'.cell? ⟨gk, 3, none⟩ = some (.slice K2 l2 m2) ∧ w'.cell? ⟨w.heap.size + 1, 0, none⟩ = some (.bool bn) ∧ w'.cell? ⟨w.heap.size + 1, 1, none⟩ = some (.slice qA qk qc) ∧ w'.cell? ⟨w.heap.size + 1, 2, none⟩ = some (.bool bn') ∧ w'.cell? ⟨w.heap.size + 1, 3, none⟩ = some (.slice qB qj qd)) ∧ Kp V w' from fun w' hk => ⟨⟨(Kp.blk hk HBXA.out.1).cell 0, (Kp.blk hk HBXA.out.1).cell 1, (Kp.blk hk HBXA.out.1).cell 2, (Kp.blk hk HBXA.out.1).cell 3, (Kp.blk hk HBK.out.1).cell 0, (Kp.blk hk HBK.out.1).cell 1, (Kp.blk hk HBK.out.1).cell 2, (Kp.blk hk HBK.out.1).cell 3, (Kp.blk hk HBXA.out.2).cell 0, (Kp.blk hk HBXA.out.2).cell 1, (Kp.blk hk HBXA.out.2).cell 2, (Kp.blk hk HBXA.out.2).cell 3⟩, hk⟩)
  refine wp_region_held_drew (S := fun w' => (w'.cell? ⟨w.heap.size, 0, none⟩ = some (.bool an) ∧ w'.cell? ⟨w.heap.size, 1, none⟩ = some (.slice pA pk pc) ∧ w'.cell? ⟨w.heap.size, 2, none⟩ = some (.bool an') ∧ w'.cell? ⟨w.heap.size, 3, none⟩ = some (.slice pB pj pd) ∧ w'.cell? ⟨gk, 0, none⟩ = some (.bool (decide (kq.num < 0))) ∧ w'.cell? ⟨gk, 1, none⟩ = some (.slice K1 l1 m1) ∧ w'.cell? ⟨gk, 2, none⟩ = some (.bool false) ∧ w'.cell? ⟨gk, 3, none⟩ = some (.slice K2 l2 m2) ∧ w'.cell? ⟨w.heap.size + 1, 0, none⟩ = some (.bool bn) ∧ w'.cell? ⟨w.heap.size + 1, 1, none⟩ = some (.slice qA qk qc) ∧ w'.cell? ⟨w.heap.size + 1, 2, none⟩ = some (.bool bn') ∧ w'.cell? ⟨w.heap.size + 1, 3, none⟩ = some (.slice qB qj qd)) ∧ Kp V w') (by kernel_rfl) (HS12.out _ (Kp.drew hkX)) (fun hHeld => ?_)
  refine' tkk 0 rfl (by kernel_rfl) (fun _ _ _ h => h) (.inl ⟨by rfl, ?_⟩) (by assumption) ?_; rotate_left
  ·(intro w hSw; (try dsimp only at hSw); (try simp only [p1, p2, p3]); go_simp; first | done | with_reducible rfl)
  (try simp only [Act.put, p1, p2, p3, p4, p5, p6])
  refine' tkk 1 rfl (by kernel_rfl) (fun _ _ _ h => h) (.inl ⟨by rfl, ?_⟩) (by assumption) ?_; rotate_left
  ·(intro w hSw; (try dsimp only at hSw); (try simp only [p1, p2, p3]); go_simp; first | done | with_reducible rfl)
  (try simp only [Act.put, p1, p2, p3, p4, p5, p6])
  refine' tkk 2 rfl (by kernel_rfl) (fun _ _ _ h => h) (.inl ⟨by rfl, ?_⟩) (by assumption) ?_; rotate_left
  ·(intro w hSw; (try dsimp only at hSw); (try simp only [p1, p2, p3]); go_simp; first | done | with_reducible rfl)
  (try simp only [Act.put, p1, p2, p3, p4, p5, p6])
  refine' tkk 3 rfl (by kernel_rfl) (fun _ _ _ h => h) (.inl ⟨by rfl, ?_⟩) (by assumption) ?_; rotate_left
  ·(intro w hSw; (try dsimp only at hSw); (try simp only [p1, p2, p3]); go_simp; first | done | with_reducible rfl)
  (try simp only [Act.put, p1, p2, p3, p4, p5, p6])
  refine wpAnyH_ready (rs := [4, 7]) (by kernel_rfl) (by simp) ?_
  refine AllReadyH.cons rfl (fun K hK => ?_) ?_
  ·(try simp only [p1, p2, p3])
   go_simp
   have hk := And.right ‹_ ∧ Kp V _›
   refine (TS.out _ hk).mono ?_
   rintro e v4 ⟨N4, n4, o4, M4, p4, s4, rfl, hk1, hk2, hW1, hW2, -, -, hbx⟩
   have hp : Kp V v4 := Kp.trans hk hbx
   have h4r := (show RQ v4 (rq - rp) N4 n4 o4 M4 p4 s4 from ⟨hk1, hk2, hW1, hW2⟩)
   (try replace hb7 := Blk.below hb7 hbx hb7.lt)
   clear hk hbx hk1 hk2 hW1 hW2
   (try (go_wp2_with fail))
   refine hK.out _ _ ?k1 (fun hHeld1 => ?n1)
   case k1 => ((try dsimp only); first | (with_reducible refine HS12.out _ ?_; with_reducible assumption) | (with_reducible refine HS12.out _ (Kp.drew ?_); with_reducible assumption) | (with_reducible refine' HS12.out _ (Kp.drew (And.right ?_)); rotate_left; with_reducible assumption) | (with_reducible refine' HS12.out _ (Kp.alloc (And.right ?_) _); rotate_left; with_reducible assumption) | (with_reducible refine' HS12.out _ (kp_set4 (And.right ?_) hg7 _ _ _ _); rotate_left; with_reducible assumption) | (exact HS12.out _ (Kp.drew (Kp.alloc hkX _))))
   clear hK K
   (try simp only [Act.put, p1, p2, p3, p4, p5, p6])
   refine wpAnyH_ready (rs := [5, 7]) (by kernel_rfl) (by simp) ?_
   refine AllReadyH.cons rfl (fun K hK => ?_) ?_
   ·(try simp only [p1, p2, p3])
    go_simp
    have hk := And.right ‹_ ∧ Kp V _›
    refine (TM.out _ hk _ _ _ _ _ _ h4r).mono ?_
    rintro e v5 ⟨N5, n5, o5, M5, p5, s5, rfl, hk1, hk2, hW1, hW2, -, -, hbx⟩
    have hp : Kp V v5 := Kp.trans hk hbx
    have h5r := (show RQ v5 (kq * (rq - rp)) N5 n5 o5 M5 p5 s5 from ⟨hk1, hk2, hW1, hW2⟩)
    (try replace hb7 := Blk.below hb7 hbx hb7.lt)
    clear hk hbx hk1 hk2 hW1 hW2
    (try (go_wp2_with fail))
    refine hK.out _ _ ?k2 (fun hHeld2 => ?n2)
    case k2 => ((try dsimp only); first | (with_reducible refine HS12.out _ ?_; with_reducible assumption) | (with_reducible refine HS12.out _ (Kp.drew ?_); with_reducible assumption) | (with_reducible refine' HS12.out _ (Kp.drew (And.right ?_)); rotate_left; with_reducible assumption) | (with_reducible refine' HS12.out _ (Kp.alloc (And.right ?_) _); rotate_left; with_reducible assumption) | (with_reducible refine' HS12.out _ (kp_set4 (And.right ?_) hg7 _ _ _ _); rotate_left; with_reducible assumption) | (exact HS12.out _ (Kp.drew (Kp.alloc hkX _))))
    clear hK K
    (try simp only [Act.put, p1, p2, p3, p4, p5, p6])
    refine wpAnyH_ready (rs := [6, 7]) (by kernel_rfl) (by simp) ?_
    refine AllReadyH.cons rfl (fun K hK => ?_) ?_
    ·(try simp only [p1, p2, p3])
     go_simp
     have hk := And.right ‹_ ∧ Kp V _›
     refine (TD.out _ hk _ _ _ _ _ _ h5r).mono ?_
     rintro e v6 ⟨N6, n6, o6, M6, p6, s6, rfl, hk1, hk2, hW1, hW2, -, -, hbx⟩
     have hp : Kp V v6 := Kp.trans hk hbx
     have h6r := (show RQ v6 (rp + kq * (rq - rp)) N6 n6 o6 M6 p6 s6 from ⟨hk1, hk2, hW1, hW2⟩)
     (try replace hb7 := Blk.below hb7 hbx hb7.lt)
     clear hk hbx hk1 hk2 hW1 hW2
     have h6z := h6r
     (try (go_wp2_with fail))
     refine hK.out _ _ ?k3 (fun hHeld3 => ?n3)
     case k3 => ((try dsimp only); first | (with_reducible refine HS12.out _ ?_; with_reducible assumption) | (with_reducible refine HS12.out _ (Kp.drew ?_); with_reducible assumption) | (with_reducible refine' HS12.out _ (Kp.drew (And.right ?_)); rotate_left; with_reducible assumption) | (with_reducible refine' HS12.out _ (Kp.alloc (And.right ?_) _); rotate_left; with_reducible assumption) | (with_reducible refine' HS12.out _ (kp_set4 (And.right ?_) hg7 _ _ _ _); rotate_left; with_reducible assumption) | (exact HS12.out _ (Kp.drew (Kp.alloc hkX _))))
     clear hK K
     (try simp only [Act.put, p1, p2, p3, p4, p5, p6])
     refine wpAnyH_ready (rs := [7]) (by kernel_rfl) (by simp) ?_
     refine AllReadyH.cons rfl (fun K hK => ?_) AllReadyH.nil
     (try simp only [p1, p2, p3])
     go_simp
     have hk := And.right ‹_ ∧ Kp V _›
     have hg7 := Below.size hk
     have hb7 := blk_here hk 42 #[.bool false, .slice none 0 0, .bool false, .slice none 0 0]
     (try simp only [sz_drew] at hb7 hg7)
     (try replace h4r := RQ.below h4r ((Kp.refl _).alloc (.cells #[.bool false, .slice none 0 0, .bool false, .slice none 0 0] 42)))
     (try replace h5r := RQ.below h5r ((Kp.refl _).alloc (.cells #[.bool false, .slice none 0 0, .bool false, .slice none 0 0] 42)))
     (try replace h6r := RQ.below h6r ((Kp.refl _).alloc (.cells #[.bool false, .slice none 0 0, .bool false, .slice none 0 0] 42)))
     clear hk
     refine hK.out _ _ ?k4 (fun hHeld4 => ?n4)
     case k4 => ((try dsimp only); first | (with_reducible refine HS12.out _ ?_; with_reducible assumption) | (with_reducible refine HS12.out _ (Kp.drew ?_); with_reducible assumption) | (with_reducible refine' HS12.out _ (Kp.drew (And.right ?_)); rotate_left; with_reducible assumption) | (with_reducible refine' HS12.out _ (Kp.alloc (And.right ?_) _); rotate_left; with_reducible assumption) | (with_reducible refine' HS12.out _ (kp_set4 (And.right ?_) hg7 _ _ _ _); rotate_left; with_reducible assumption) | (exact HS12.out _ (Kp.drew (Kp.alloc hkX _))))
     clear hK K
     (try simp only [Act.put, p1, p2, p3, p4, p5, p6])
     refine wpAnyH_ready (rs := [8]) (by kernel_rfl) (by simp) ?_
     refine AllReadyH.cons rfl (fun K hK => ?_) AllReadyH.nil
     have hk := And.right ‹_ ∧ Kp V _›
     obtain ⟨_, _, _, _, i0, i1, i2, i3⟩ := hb7.four
     (try simp only [p1, p2, p3])
     go_simp
     refine hK.out _ _ ?k5 (fun hHeld5 => ?n5)
     case k5 => ((try dsimp only); first | (with_reducible refine HS12.out _ ?_; with_reducible assumption) | (with_reducible refine HS12.out _ (Kp.drew ?_); with_reducible assumption) | (with_reducible refine' HS12.out _ (Kp.drew (And.right ?_)); rotate_left; with_reducible assumption) | (with_reducible refine' HS12.out _ (Kp.alloc (And.right ?_) _); rotate_left; with_reducible assumption) | (with_reducible refine' HS12.out _ (kp_set4 (And.right ?_) hg7 _ _ _ _); rotate_left; with_reducible assumption) | (exact HS12.out _ (Kp.drew (Kp.alloc hkX _))))
     clear hK K
     (try simp only [Act.put, p1, p2, p3, p4, p5, p6])
     refine wpAnyH_done (by kernel_rfl) ?_ _
     (try clear hHeld1)
     (try clear hHeld2)
     (try clear hHeld3)
     (try clear hHeld4)
     (try clear hHeld5)
     (try clear hHeld6)
     (try clear hHeld7)
     (try clear hHeld8)
     (try clear hHeld9)
     (try clear hHeld10)
     (try clear hHeld11)
     (try clear hHeld12)
     (try clear hHeld13)
     (try clear hHeld14)
     (try clear hHeld15)
     (try clear hHeld16)
     (try clear hHeld17)
     (try clear hHeld18)
     (try clear hHeld19)
     (try clear hHeld20)
     (try clear hHeld21)
     (try clear hHeld22)
     (try clear hHeld23)
     (try clear hHeld24)
     (try clear hHeld25)
     (try clear hHeld26)
     (try clear hHeld27)
     (try clear hHeld28)
     (try clear hHeld29)
     (try clear hHeld30)
     (try clear hHeld31)
     (try clear hHeld32)
     (try clear hHeld33)
     (try clear hHeld34)
     (try clear hHeld35)
     (try clear hHeld36)
     (try clear hHeld37)
     (try clear hHeld38)
     (try clear hHeld39)
     (try clear hHeld40)
     (try clear hHeld41)
     (try clear hHeld42)
     (try clear hHeld43)
     (try clear hHeld44)
     (try clear hHeld45)
     (try clear hHeld46)
     (try clear hHeld47)
     (try clear hHeld48)
     (try clear hHeld49)
     (try clear hHeld50)
     (try clear hHeld51)
     (try clear hHeld52)
     (try clear hHeld53)
     (try clear hHeld54)
     (try clear hHeld55)
     (try clear hHeld56)
     (try clear hHeld57)
     (try clear hHeld58)
     (try clear hHeld59)
     (try clear hHeld60)
     have hkY := kp_set4 hk hg7 (.bool (decide (((rp + kq * (rq - rp))).num < 0))) (.slice N6 n6 o6) (.bool false) (.slice M6 p6 s6)
     have hb9 := (show Blk (qst _ _ 0 (decide (((rp + kq * (rq - rp))).num < 0)) false N6 M6 n6 o6 p6 s6) _ 42 #[.bool (decide (((rp + kq * (rq - rp))).num < 0)), .slice N6 n6 o6, .bool false, .slice M6 p6 s6] from hb7.put4)
     have hq9 := RQ.put4 (o := 0) (a := decide (((rp + kq * (rq - rp))).num < 0)) (b := false) (B := N6) (B' := M6) (j := n6) (d := o6) (j' := p6) (d' := s6) h6r hb7 NoInt.four
     obtain ⟨c0, c1, c2, c3, -, -, -, -⟩ := hb9.four
     simp only [qst, Nat.zero_add] at c0 c1 c2 c3
     have HUY := Lib.hid (HU6.out.trans (Below.mono hkY HU6.out.size))
     have hC9 := HCL.out _ (HU6.out.trans (Below.mono hkY HU6.out.size)) _ _ _ _ _ _ _ _ _ (RQ.arg hq9 HLS.out (by decide))
     have hka := hp.alloc (.cells #[.bool (decide (((rp + kq * (rq - rp))).num < 0)), .slice N6 n6 o6, .bool false, .slice M6 p6 s6] 42)
     have HUYb := Lib.hid (HU6.out.trans (Below.mono hka HU6.out.size))
     have hC9b := HCL.out _ (HU6.out.trans (Below.mono hka HU6.out.size)) _ _ _ _ _ _ _ _ _ (RQ.arg (RQ.below h6z ((Kp.refl v6).alloc (.cells #[.bool (decide (((rp + kq * (rq - rp))).num < 0)), .slice N6 n6 o6, .bool false, .slice M6 p6 s6] 42))) HLS.out (by decide))
     clear hka h6z hb9 hq9 hkY hb7 h6r hk i0 i1 i2 i3 hkX HS12 TS TM TD
     cases bb
     ·generalize balB os bs (rp + kq * (rq - rp)) = cc at *
      have HC9 := Lib.hid hC9
      have HC9b := Lib.hid hC9b
      clear hC9 hC9b
      go_wp2_with fail
      (first | refine HC9.out.mono ?_ | refine HC9b.out.mono ?_)
      rintro e y1 ⟨rfl, hby⟩
      have HF : Hid (Below w.heap.size w y1) := Lib.hid (by first | exact HUY.out.trans (hby.mono HUY.out.size) | exact HUYb.out.trans (hby.mono HUYb.out.size))
      clear hby HC9 HC9b HUY HUYb
      go_wp2
      go_ret
      exact ⟨rfl, HF.out⟩
     ·rw [HMC.out HBA.out HBB.out] at hC9 hC9b
      have HC9 := Lib.hid hC9
      have HC9b := Lib.hid hC9b
      clear hC9 hC9b
      go_wp2_with fail
      (first | refine HC9.out.mono ?_ | refine HC9b.out.mono ?_)
      rintro e y1 ⟨rfl, hby⟩
      have HF : Hid (Below w.heap.size w y1) := Lib.hid (by first | exact HUY.out.trans (hby.mono HUY.out.size) | exact HUYb.out.trans (hby.mono HUYb.out.size))
      clear hby HC9 HC9b HUY HUYb
      go_wp2
      go_ret
      exact ⟨rfl, HF.out⟩
    refine AllReadyH.cons rfl (fun K hK => ?_) ?_
    ·(try simp only [p1, p2, p3])
     go_simp
     have hk := And.right ‹_ ∧ Kp V _›
     have hg7 := Below.size hk
     have hb7 := blk_here hk 42 #[.bool false, .slice none 0 0, .bool false, .slice none 0 0]
     (try simp only [sz_drew] at hb7 hg7)
     (try replace h4r := RQ.below h4r ((Kp.refl _).alloc (.cells #[.bool false, .slice none 0 0, .bool false, .slice none 0 0] 42)))
     (try replace h5r := RQ.below h5r ((Kp.refl _).alloc (.cells #[.bool false, .slice none 0 0, .bool false, .slice none 0 0] 42)))
     (try replace h6r := RQ.below h6r ((Kp.refl _).alloc (.cells #[.bool false, .slice none 0 0, .bool false, .slice none 0 0] 42)))
     clear hk
     refine hK.out _ _ ?k6 (fun hHeld6 => ?n6)
     case k6 => ((try dsimp only); first | (with_reducible refine HS12.out _ ?_; with_reducible assumption) | (with_reducible refine HS12.out _ (Kp.drew ?_); with_reducible assumption) | (with_reducible refine' HS12.out _ (Kp.drew (And.right ?_)); rotate_left; with_reducible assumption) | (with_reducible refine' HS12.out _ (Kp.alloc (And.right ?_) _); rotate_left; with_reducible assumption) | (with_reducible refine' HS12.out _ (kp_set4 (And.right ?_) hg7 _ _ _ _); rotate_left; with_reducible assumption) | (exact HS12.out _ (Kp.drew (Kp.alloc hkX _))))
     clear hK K
     (try simp only [Act.put, p1, p2, p3, p4, p5, p6])
     refine wpAnyH_ready (rs := [6]) (by kernel_rfl) (by simp) ?_
     refine AllReadyH.cons rfl (fun K hK => ?_) AllReadyH.nil
     (try simp only [p1, p2, p3])
     go_simp
     have hk := And.right ‹_ ∧ Kp V _›
     refine (TD.out _ hk _ _ _ _ _ _ h5r).mono ?_
     rintro e v6 ⟨N6, n6, o6, M6, p6, s6, rfl, hk1, hk2, hW1, hW2, -, -, hbx⟩
     have hp : Kp V v6 := Kp.trans hk hbx
     have h6r := (show RQ v6 (rp + kq * (rq - rp)) N6 n6 o6 M6 p6 s6 from ⟨hk1, hk2, hW1, hW2⟩)
     (try replace hb7 := Blk.below hb7 hbx hb7.lt)
     clear hk hbx hk1 hk2 hW1 hW2
     have h6z := h6r
     (try (go_wp2_with fail))
     refine hK.out _ _ ?k7 (fun hHeld7 => ?n7)
     case k7 => ((try dsimp only); first | (with_reducible refine HS12.out _ ?_; with_reducible assumption) | (with_reducible refine HS12.out _ (Kp.drew ?_); with_reducible assumption) | (with_reducible refine' HS12.out _ (Kp.drew (And.right ?_)); rotate_left; with_reducible assumption) | (with_reducible refine' HS12.out _ (Kp.alloc (And.right ?_) _); rotate_left; with_reducible assumption) | (with_reducible refine' HS12.out _ (kp_set4 (And.right ?_) hg7 _ _ _ _); rotate_left; with_reducible assumption) | (exact HS12.out _ (Kp.drew (Kp.alloc hkX _))))
     clear hK K
     (try simp only [Act.put, p1, p2, p3, p4, p5, p6])
     refine wpAnyH_ready (rs := [8]) (by kernel_rfl) (by simp) ?_
     refine AllReadyH.cons rfl (fun K hK => ?_) AllReadyH.nil
     have hk := And.right ‹_ ∧ Kp V _›
     obtain ⟨_, _, _, _, i0, i1, i2, i3⟩ := hb7.four
     (try simp only [p1, p2, p3])
     go_simp
     refine hK.out _ _ ?k8 (fun hHeld8 => ?n8)
     case k8 => ((try dsimp only); first | (with_reducible refine HS12.out _ ?_; with_reducible assumption) | (with_reducible refine HS12.out _ (Kp.drew ?_); with_reducible assumption) | (with_reducible refine' HS12.out _ (Kp.drew (And.right ?_)); rotate_left; with_reducible assumption) | (with_reducible refine' HS12.out _ (Kp.alloc (And.right ?_) _); rotate_left; with_reducible assumption) | (with_reducible refine' HS12.out _ (kp_set4 (And.right ?_) hg7 _ _ _ _); rotate_left; with_reducible assumption) | (exact HS12.out _ (Kp.drew (Kp.alloc hkX _))))
     clear hK K
     (try simp only [Act.put, p1, p2, p3, p4, p5, p6])
     refine wpAnyH_done (by kernel_rfl) ?_ _
     (try clear hHeld1)
     (try clear hHeld2)
     (try clear hHeld3)
     (try clear hHeld4)
     (try clear hHeld5)
     (try clear hHeld6)
     (try clear hHeld7)
     (try clear hHeld8)
     (try clear hHeld9)
     (try clear hHeld10)
     (try clear hHeld11)
     (try clear hHeld12)
     (try clear hHeld13)
     (try clear hHeld14)
     (try clear hHeld15)
     (try clear hHeld16)
     (try clear hHeld17)
     (try clear hHeld18)
     (try clear hHeld19)
     (try clear hHeld20)
     (try clear hHeld21)
     (try clear hHeld22)
     (try clear hHeld23)
     (try clear hHeld24)
     (try clear hHeld25)
     (try clear hHeld26)
     (try clear hHeld27)
     (try clear hHeld28)
     (try clear hHeld29)
     (try clear hHeld30)
     (try clear hHeld31)
     (try clear hHeld32)
     (try clear hHeld33)
     (try clear hHeld34)
     (try clear hHeld35)
     (try clear hHeld36)
     (try clear hHeld37)
     (try clear hHeld38)
     (try clear hHeld39)
     (try clear hHeld40)
     (try clear hHeld41)
     (try clear hHeld42)
     (try clear hHeld43)
     (try clear hHeld44)
     (try clear hHeld45)
     (try clear hHeld46)
     (try clear hHeld47)
     (try clear hHeld48)
     (try clear hHeld49)
     (try clear hHeld50)
     (try clear hHeld51)
     (try clear hHeld52)
     (try clear hHeld53)
     (try clear hHeld54)
     (try clear hHeld55)
     (try clear hHeld56)
     (try clear hHeld57)
     (try clear hHeld58)
     (try clear hHeld59)
     (try clear hHeld60)
     have hkY := kp_set4 hk hg7 (.bool (decide (((rp + kq * (rq - rp))).num < 0))) (.slice N6 n6 o6) (.bool false) (.slice M6 p6 s6)
     have hb9 := (show Blk (qst _ _ 0 (decide (((rp + kq * (rq - rp))).num < 0)) false N6 M6 n6 o6 p6 s6) _ 42 #[.bool (decide (((rp + kq * (rq - rp))).num < 0)), .slice N6 n6 o6, .bool false, .slice M6 p6 s6] from hb7.put4)
     have hq9 := RQ.put4 (o := 0) (a := decide (((rp + kq * (rq - rp))).num < 0)) (b := false) (B := N6) (B' := M6) (j := n6) (d := o6) (j' := p6) (d' := s6) h6r hb7 NoInt.four
     obtain ⟨c0, c1, c2, c3, -, -, -, -⟩ := hb9.four
     simp only [qst, Nat.zero_add] at c0 c1 c2 c3
     have HUY := Lib.hid (HU6.out.trans (Below.mono hkY HU6.out.size))
     have hC9 := HCL.out _ (HU6.out.trans (Below.mono hkY HU6.out.size)) _ _ _ _ _ _ _ _ _ (RQ.arg hq9 HLS.out (by decide))
     have hka := hp.alloc (.cells #[.bool (decide (((rp + kq * (rq - rp))).num < 0)), .slice N6 n6 o6, .bool false, .slice M6 p6 s6] 42)
     have HUYb := Lib.hid (HU6.out.trans (Below.mono hka HU6.out.size))
     have hC9b := HCL.out _ (HU6.out.trans (Below.mono hka HU6.out.size)) _ _ _ _ _ _ _ _ _ (RQ.arg (RQ.below h6z ((Kp.refl v6).alloc (.cells #[.bool (decide (((rp + kq * (rq - rp))).num < 0)), .slice N6 n6 o6, .bool false, .slice M6 p6 s6] 42))) HLS.out (by decide))
     clear hka h6z hb9 hq9 hkY hb7 h6r hk i0 i1 i2 i3 hkX HS12 TS TM TD
     cases bb
     ·generalize balB os bs (rp + kq * (rq - rp)) = cc at *
      have HC9 := Lib.hid hC9
      have HC9b := Lib.hid hC9b
      clear hC9 hC9b
      go_wp2_with fail
      (first | refine HC9.out.mono ?_ | refine HC9b.out.mono ?_)
      rintro e y1 ⟨rfl, hby⟩
      have HF : Hid (Below w.heap.size w y1) := Lib.hid (by first | exact HUY.out.trans (hby.mono HUY.out.size) | exact HUYb.out.trans (hby.mono HUYb.out.size))
      clear hby HC9 HC9b HUY HUYb
      go_wp2
      go_ret
      exact ⟨rfl, HF.out⟩
     ·rw [HMC.out HBA.out HBB.out] at hC9 hC9b
      have HC9 := Lib.hid hC9
      have HC9b := Lib.hid hC9b
      clear hC9 hC9b
      go_wp2_with fail
      (first | refine HC9.out.mono ?_ | refine HC9b.out.mono ?_)
      rintro e y1 ⟨rfl, hby⟩
      have HF : Hid (Below w.heap.size w y1) := Lib.hid (by first | exact HUY.out.trans (hby.mono HUY.out.size) | exact HUYb.out.trans (hby.mono HUYb.out.size))
      clear hby HC9 HC9b HUY HUYb
      go_wp2
      go_ret
      exact ⟨rfl, HF.out⟩
    exact AllReadyH.nil
   refine AllReadyH.cons rfl (fun K hK => ?_) ?_
   ·(try simp only [p1, p2, p3])
    go_simp
    have hk := And.right ‹_ ∧ Kp V _›
    have hg7 := Below.size hk
    have hb7 := blk_here hk 42 #[.bool false, .slice none 0 0, .bool false, .slice none 0 0]
    (try simp only [sz_drew] at hb7 hg7)
    (try replace h4r := RQ.below h4r ((Kp.refl _).alloc (.cells #[.bool false, .slice none 0 0, .bool false, .slice none 0 0] 42)))
    (try replace h5r := RQ.below h5r ((Kp.refl _).alloc (.cells #[.bool false, .slice none 0 0, .bool false, .slice none 0 0] 42)))
    (try replace h6r := RQ.below h6r ((Kp.refl _).alloc (.cells #[.bool false, .slice none 0 0, .bool false, .slice none 0 0] 42)))
    clear hk
    refine hK.out _ _ ?k9 (fun hHeld9 => ?n9)
    case k9 => ((try dsimp only); first | (with_reducible refine HS12.out _ ?_; with_reducible assumption) | (with_reducible refine HS12.out _ (Kp.drew ?_); with_reducible assumption) | (with_reducible refine' HS12.out _ (Kp.drew (And.right ?_)); rotate_left; with_reducible assumption) | (with_reducible refine' HS12.out _ (Kp.alloc (And.right ?_) _); rotate_left; with_reducible assumption) | (with_reducible refine' HS12.out _ (kp_set4 (And.right ?_) hg7 _ _ _ _); rotate_left; with_reducible assumption) | (exact HS12.out _ (Kp.drew (Kp.alloc hkX _))))
    clear hK K
    (try simp only [Act.put, p1, p2, p3, p4, p5, p6])
    refine wpAnyH_ready (rs := [5]) (by kernel_rfl) (by simp) ?_
    refine AllReadyH.cons rfl (fun K hK => ?_) AllReadyH.nil
    (try simp only [p1, p2, p3])
    go_simp
    have hk := And.right ‹_ ∧ Kp V _›
    refine (TM.out _ hk _ _ _ _ _ _ h4r).mono ?_
    rintro e v5 ⟨N5, n5, o5, M5, p5, s5, rfl, hk1, hk2, hW1, hW2, -, -, hbx⟩
    have hp : Kp V v5 := Kp.trans hk hbx
    have h5r := (show RQ v5 (kq * (rq - rp)) N5 n5 o5 M5 p5 s5 from ⟨hk1, hk2, hW1, hW2⟩)
    (try replace hb7 := Blk.below hb7 hbx hb7.lt)
    clear hk hbx hk1 hk2 hW1 hW2
    (try (go_wp2_with fail))
    refine hK.out _ _ ?k10 (fun hHeld10 => ?n10)
    case k10 => ((try dsimp only); first | (with_reducible refine HS12.out _ ?_; with_reducible assumption) | (with_reducible refine HS12.out _ (Kp.drew ?_); with_reducible assumption) | (with_reducible refine' HS12.out _ (Kp.drew (And.right ?_)); rotate_left; with_reducible assumption) | (with_reducible refine' HS12.out _ (Kp.alloc (And.right ?_) _); rotate_left; with_reducible assumption) | (with_reducible refine' HS12.out _ (kp_set4 (And.right ?_) hg7 _ _ _ _); rotate_left; with_reducible assumption) | (exact HS12.out _ (Kp.drew (Kp.alloc hkX _))))
    clear hK K
    (try simp only [Act.put, p1, p2, p3, p4, p5, p6])
    refine wpAnyH_ready (rs := [6]) (by kernel_rfl) (by simp) ?_
    refine AllReadyH.cons rfl (fun K hK => ?_) AllReadyH.nil
    (try simp only [p1, p2, p3])
    go_simp
    have hk := And.right ‹_ ∧ Kp V _›
    refine (TD.out _ hk _ _ _ _ _ _ h5r).mono ?_
    rintro e v6 ⟨N6, n6, o6, M6, p6, s6, rfl, hk1, hk2, hW1, hW2, -, -, hbx⟩
    have hp : Kp V v6 := Kp.trans hk hbx
    have h6r := (show RQ v6 (rp + kq * (rq - rp)) N6 n6 o6 M6 p6 s6 from ⟨hk1, hk2, hW1, hW2⟩)
    (try replace hb7 := Blk.below hb7 hbx hb7.lt)
    clear hk hbx hk1 hk2 hW1 hW2
    have h6z := h6r
    (try (go_wp2_with fail))
    refine hK.out _ _ ?k11 (fun hHeld11 => ?n11)
    case k11 => ((try dsimp only); first | (with_reducible refine HS12.out _ ?_; with_reducible assumption) | (with_reducible refine HS12.out _ (Kp.drew ?_); with_reducible assumption) | (with_reducible refine' HS12.out _ (Kp.drew (And.right ?_)); rotate_left; with_reducible assumption) | (with_reducible refine' HS12.out _ (Kp.alloc (And.right ?_) _); rotate_left; with_reducible assumption) | (with_reducible refine' HS12.out _ (kp_set4 (And.right ?_) hg7 _ _ _ _); rotate_left; with_reducible assumption) | (exact HS12.out _ (Kp.drew (Kp.alloc hkX _))))
    clear hK K
    (try simp only [Act.put, p1, p2, p3, p4, p5, p6])
    refine wpAnyH_ready (rs := [8]) (by kernel_rfl) (by simp) ?_
    refine AllReadyH.cons rfl (fun K hK => ?_) AllReadyH.nil
    have hk := And.right ‹_ ∧ Kp V _›
    obtain ⟨_, _, _, _, i0, i1, i2, i3⟩ := hb7.four
    (try simp only [p1, p2, p3])
    go_simp
    refine hK.out _ _ ?k12 (fun hHeld12 => ?n12)
    case k12 => ((try dsimp only); first | (with_reducible refine HS12.out _ ?_; with_reducible assumption) | (with_reducible refine HS12.out _ (Kp.drew ?_); with_reducible assumption) | (with_reducible refine' HS12.out _ (Kp.drew (And.right ?_)); rotate_left; with_reducible assumption) | (with_reducible refine' HS12.out _ (Kp.alloc (And.right ?_) _); rotate_left; with_reducible assumption) | (with_reducible refine' HS12.out _ (kp_set4 (And.right ?_) hg7 _ _ _ _); rotate_left; with_reducible assumption) | (exact HS12.out _ (Kp.drew (Kp.alloc hkX _))))
    clear hK K
    (try simp only [Act.put, p1, p2, p3, p4, p5, p6])
    refine wpAnyH_done (by kernel_rfl) ?_ _
    (try clear hHeld1)
    (try clear hHeld2)
    (try clear hHeld3)
    (try clear hHeld4)
    (try clear hHeld5)
    (try clear hHeld6)
    (try clear hHeld7)
    (try clear hHeld8)
    (try clear hHeld9)
    (try clear hHeld10)
    (try clear hHeld11)
    (try clear hHeld12)
    (try clear hHeld13)
    (try clear hHeld14)
    (try clear hHeld15)
    (try clear hHeld16)
    (try clear hHeld17)
    (try clear hHeld18)
    (try clear hHeld19)
    (try clear hHeld20)
    (try clear hHeld21)
    (try clear hHeld22)
    (try clear hHeld23)
    (try clear hHeld24)
    (try clear hHeld25)
    (try clear hHeld26)
    (try clear hHeld27)
    (try clear hHeld28)
    (try clear hHeld29)
    (try clear hHeld30)
    (try clear hHeld31)
    (try clear hHeld32)
    (try clear hHeld33)
    (try clear hHeld34)
    (try clear hHeld35)
    (try clear hHeld36)
    (try clear hHeld37)
    (try clear hHeld38)
    (try clear hHeld39)
    (try clear hHeld40)
    (try clear hHeld41)
    (try clear hHeld42)
    (try clear hHeld43)
    (try clear hHeld44)
    (try clear hHeld45)
    (try clear hHeld46)
    (try clear hHeld47)
    (try clear hHeld48)
    (try clear hHeld49)
    (try clear hHeld50)
    (try clear hHeld51)
    (try clear hHeld52)
    (try clear hHeld53)
    (try clear hHeld54)
    (try clear hHeld55)
    (try clear hHeld56)
    (try clear hHeld57)
    (try clear hHeld58)
    (try clear hHeld59)
    (try clear hHeld60)
    have hkY := kp_set4 hk hg7 (.bool (decide (((rp + kq * (rq - rp))).num < 0))) (.slice N6 n6 o6) (.bool false) (.slice M6 p6 s6)
    have hb9 := (show Blk (qst _ _ 0 (decide (((rp + kq * (rq - rp))).num < 0)) false N6 M6 n6 o6 p6 s6) _ 42 #[.bool (decide (((rp + kq * (rq - rp))).num < 0)), .slice N6 n6 o6, .bool false, .slice M6 p6 s6] from hb7.put4)
    have hq9 := RQ.put4 (o := 0) (a := decide (((rp + kq * (rq - rp))).num < 0)) (b := false) (B := N6) (B' := M6) (j := n6) (d := o6) (j' := p6) (d' := s6) h6r hb7 NoInt.four
    obtain ⟨c0, c1, c2, c3, -, -, -, -⟩ := hb9.four
    simp only [qst, Nat.zero_add] at c0 c1 c2 c3
    have HUY := Lib.hid (HU6.out.trans (Below.mono hkY HU6.out.size))
    have hC9 := HCL.out _ (HU6.out.trans (Below.mono hkY HU6.out.size)) _ _ _ _ _ _ _ _ _ (RQ.arg hq9 HLS.out (by decide))
    have hka := hp.alloc (.cells #[.bool (decide (((rp + kq * (rq - rp))).num < 0)), .slice N6 n6 o6, .bool false, .slice M6 p6 s6] 42)
    have HUYb := Lib.hid (HU6.out.trans (Below.mono hka HU6.out.size))
    have hC9b := HCL.out _ (HU6.out.trans (Below.mono hka HU6.out.size)) _ _ _ _ _ _ _ _ _ (RQ.arg (RQ.below h6z ((Kp.refl v6).alloc (.cells #[.bool (decide (((rp + kq * (rq - rp))).num < 0)), .slice N6 n6 o6, .bool false, .slice M6 p6 s6] 42))) HLS.out (by decide))
    clear hka h6z hb9 hq9 hkY hb7 h6r hk i0 i1 i2 i3 hkX HS12 TS TM TD
    cases bb
    ·generalize balB os bs (rp + kq * (rq - rp)) = cc at *
     have HC9 := Lib.hid hC9
     have HC9b := Lib.hid hC9b
     clear hC9 hC9b
     go_wp2_with fail
     (first | refine HC9.out.mono ?_ | refine HC9b.out.mono ?_)
     rintro e y1 ⟨rfl, hby⟩
     have HF : Hid (Below w.heap.size w y1) := Lib.hid (by first | exact HUY.out.trans (hby.mono HUY.out.size) | exact HUYb.out.trans (hby.mono HUYb.out.size))
     clear hby HC9 HC9b HUY HUYb
     go_wp2
     go_ret
     exact ⟨rfl, HF.out⟩
    ·rw [HMC.out HBA.out HBB.out] at hC9 hC9b
     have HC9 := Lib.hid hC9
     have HC9b := Lib.hid hC9b
     clear hC9 hC9b
     go_wp2_with fail
     (first | refine HC9.out.mono ?_ | refine HC9b.out.mono ?_)
     rintro e y1 ⟨rfl, hby⟩
     have HF : Hid (Below w.heap.size w y1) := Lib.hid (by first | exact HUY.out.trans (hby.mono HUY.out.size) | exact HUYb.out.trans (hby.mono HUYb.out.size))
     clear hby HC9 HC9b HUY HUYb
     go_wp2
     go_ret
     exact ⟨rfl, HF.out⟩
   exact AllReadyH.nil
  refine AllReadyH.cons rfl (fun K hK => ?_) ?_
  ·(try simp only [p1, p2, p3])
   go_simp
   have hk := And.right ‹_ ∧ Kp V _›
   have hg7 := Below.size hk
   have hb7 := blk_here hk 42 #[.bool false, .slice none 0 0, .bool false, .slice none 0 0]
   (try simp only [sz_drew] at hb7 hg7)
   (try replace h4r := RQ.below h4r ((Kp.refl _).alloc (.cells #[.bool false, .slice none 0 0, .bool false, .slice none 0 0] 42)))
   (try replace h5r := RQ.below h5r ((Kp.refl _).alloc (.cells #[.bool false, .slice none 0 0, .bool false, .slice none 0 0] 42)))
   (try replace h6r := RQ.below h6r ((Kp.refl _).alloc (.cells #[.bool false, .slice none 0 0, .bool false, .slice none 0 0] 42)))
   clear hk
   refine hK.out _ _ ?k13 (fun hHeld13 => ?n13)
   case k13 => ((try dsimp only); first | (with_reducible refine HS12.out _ ?_; with_reducible assumption) | (with_reducible refine HS12.out _ (Kp.drew ?_); with_reducible assumption) | (with_reducible refine' HS12.out _ (Kp.drew (And.right ?_)); rotate_left; with_reducible assumption) | (with_reducible refine' HS12.out _ (Kp.alloc (And.right ?_) _); rotate_left; with_reducible assumption) | (with_reducible refine' HS12.out _ (kp_set4 (And.right ?_) hg7 _ _ _ _); rotate_left; with_reducible assumption) | (exact HS12.out _ (Kp.drew (Kp.alloc hkX _))))
   clear hK K
   (try simp only [Act.put, p1, p2, p3, p4, p5, p6])
   refine wpAnyH_ready (rs := [4]) (by kernel_rfl) (by simp) ?_
   refine AllReadyH.cons rfl (fun K hK => ?_) AllReadyH.nil
   (try simp only [p1, p2, p3])
   go_simp
   have hk := And.right ‹_ ∧ Kp V _›
   refine (TS.out _ hk).mono ?_
   rintro e v4 ⟨N4, n4, o4, M4, p4, s4, rfl, hk1, hk2, hW1, hW2, -, -, hbx⟩
   have hp : Kp V v4 := Kp.trans hk hbx
   have h4r := (show RQ v4 (rq - rp) N4 n4 o4 M4 p4 s4 from ⟨hk1, hk2, hW1, hW2⟩)
   (try replace hb7 := Blk.below hb7 hbx hb7.lt)
   clear hk hbx hk1 hk2 hW1 hW2
   (try (go_wp2_with fail))
   refine hK.out _ _ ?k14 (fun hHeld14 => ?n14)
   case k14 => ((try dsimp only); first | (with_reducible refine HS12.out _ ?_; with_reducible assumption) | (with_reducible refine HS12.out _ (Kp.drew ?_); with_reducible assumption) | (with_reducible refine' HS12.out _ (Kp.drew (And.right ?_)); rotate_left; with_reducible assumption) | (with_reducible refine' HS12.out _ (Kp.alloc (And.right ?_) _); rotate_left; with_reducible assumption) | (with_reducible refine' HS12.out _ (kp_set4 (And.right ?_) hg7 _ _ _ _); rotate_left; with_reducible assumption) | (exact HS12.out _ (Kp.drew (Kp.alloc hkX _))))
   clear hK K
   (try simp only [Act.put, p1, p2, p3, p4, p5, p6])
   refine wpAnyH_ready (rs := [5]) (by kernel_rfl) (by simp) ?_
   refine AllReadyH.cons rfl (fun K hK => ?_) AllReadyH.nil
   (try simp only [p1, p2, p3])
   go_simp
   have hk := And.right ‹_ ∧ Kp V _›
   refine (TM.out _ hk _ _ _ _ _ _ h4r).mono ?_
   rintro e v5 ⟨N5, n5, o5, M5, p5, s5, rfl, hk1, hk2, hW1, hW2, -, -, hbx⟩
   have hp : Kp V v5 := Kp.trans hk hbx
   have h5r := (show RQ v5 (kq * (rq - rp)) N5 n5 o5 M5 p5 s5 from ⟨hk1, hk2, hW1, hW2⟩)
   (try replace hb7 := Blk.below hb7 hbx hb7.lt)
   clear hk hbx hk1 hk2 hW1 hW2
   (try (go_wp2_with fail))
   refine hK.out _ _ ?k15 (fun hHeld15 => ?n15)
   case k15 => ((try dsimp only); first | (with_reducible refine HS12.out _ ?_; with_reducible assumption) | (with_reducible refine HS12.out _ (Kp.drew ?_); with_reducible assumption) | (with_reducible refine' HS12.out _ (Kp.drew (And.right ?_)); rotate_left; with_reducible assumption) | (with_reducible refine' HS12.out _ (Kp.alloc (And.right ?_) _); rotate_left; with_reducible assumption) | (with_reducible refine' HS12.out _ (kp_set4 (And.right ?_) hg7 _ _ _ _); rotate_left; with_reducible assumption) | (exact HS12.out _ (Kp.drew (Kp.alloc hkX _))))
   clear hK K
   (try simp only [Act.put, p1, p2, p3, p4, p5, p6])
   refine wpAnyH_ready (rs := [6]) (by kernel_rfl) (by simp) ?_
   refine AllReadyH.cons rfl (fun K hK => ?_) AllReadyH.nil
   (try simp only [p1, p2, p3])
   go_simp
   have hk := And.right ‹_ ∧ Kp V _›
   refine (TD.out _ hk _ _ _ _ _ _ h5r).mono ?_
   rintro e v6 ⟨N6, n6, o6, M6, p6, s6, rfl, hk1, hk2, hW1, hW2, -, -, hbx⟩
   have hp : Kp V v6 := Kp.trans hk hbx
   have h6r := (show RQ v6 (rp + kq * (rq - rp)) N6 n6 o6 M6 p6 s6 from ⟨hk1, hk2, hW1, hW2⟩)
   (try replace hb7 := Blk.below hb7 hbx hb7.lt)
   clear hk hbx hk1 hk2 hW1 hW2
   have h6z := h6r
   (try (go_wp2_with fail))
   refine hK.out _ _ ?k16 (fun hHeld16 => ?n16)
   case k16 => ((try dsimp only); first | (with_reducible refine HS12.out _ ?_; with_reducible assumption) | (with_reducible refine HS12.out _ (Kp.drew ?_); with_reducible assumption) | (with_reducible refine' HS12.out _ (Kp.drew (And.right ?_)); rotate_left; with_reducible assumption) | (with_reducible refine' HS12.out _ (Kp.alloc (And.right ?_) _); rotate_left; with_reducible assumption) | (with_reducible refine' HS12.out _ (kp_set4 (And.right ?_) hg7 _ _ _ _); rotate_left; with_reducible assumption) | (exact HS12.out _ (Kp.drew (Kp.alloc hkX _))))
   clear hK K
   (try simp only [Act.put, p1, p2, p3, p4, p5, p6])
   refine wpAnyH_ready (rs := [8]) (by kernel_rfl) (by simp) ?_
   refine AllReadyH.cons rfl (fun K hK => ?_) AllReadyH.nil
   have hk := And.right ‹_ ∧ Kp V _›
   obtain ⟨_, _, _, _, i0, i1, i2, i3⟩ := hb7.four
   (try simp only [p1, p2, p3])
   go_simp
   refine hK.out _ _ ?k17 (fun hHeld17 => ?n17)
   case k17 => ((try dsimp only); first | (with_reducible refine HS12.out _ ?_; with_reducible assumption) | (with_reducible refine HS12.out _ (Kp.drew ?_); with_reducible assumption) | (with_reducible refine' HS12.out _ (Kp.drew (And.right ?_)); rotate_left; with_reducible assumption) | (with_reducible refine' HS12.out _ (Kp.alloc (And.right ?_) _); rotate_left; with_reducible assumption) | (with_reducible refine' HS12.out _ (kp_set4 (And.right ?_) hg7 _ _ _ _); rotate_left; with_reducible assumption) | (exact HS12.out _ (Kp.drew (Kp.alloc hkX _))))
   clear hK K
   (try simp only [Act.put, p1, p2, p3, p4, p5, p6])
   refine wpAnyH_done (by kernel_rfl) ?_ _
   (try clear hHeld1)
   (try clear hHeld2)
   (try clear hHeld3)
   (try clear hHeld4)
   (try clear hHeld5)
   (try clear hHeld6)
   (try clear hHeld7)
   (try clear hHeld8)
   (try clear hHeld9)
   (try clear hHeld10)
   (try clear hHeld11)
   (try clear hHeld12)
   (try clear hHeld13)
   (try clear hHeld14)
   (try clear hHeld15)
   (try clear hHeld16)
   (try clear hHeld17)
   (try clear hHeld18)
   (try clear hHeld19)
   (try clear hHeld20)
   (try clear hHeld21)
   (try clear hHeld22)
   (try clear hHeld23)
   (try clear hHeld24)
   (try clear hHeld25)
   (try clear hHeld26)
   (try clear hHeld27)
   (try clear hHeld28)
   (try clear hHeld29)
   (try clear hHeld30)
   (try clear hHeld31)
   (try clear hHeld32)
   (try clear hHeld33)
   (try clear hHeld34)
   (try clear hHeld35)
   (try clear hHeld36)
   (try clear hHeld37)
   (try clear hHeld38)
   (try clear hHeld39)
   (try clear hHeld40)
   (try clear hHeld41)
   (try clear hHeld42)
   (try clear hHeld43)
   (try clear hHeld44)
   (try clear hHeld45)
   (try clear hHeld46)
   (try clear hHeld47)
   (try clear hHeld48)
   (try clear hHeld49)
   (try clear hHeld50)
   (try clear hHeld51)
   (try clear hHeld52)
   (try clear hHeld53)
   (try clear hHeld54)
   (try clear hHeld55)
   (try clear hHeld56)
   (try clear hHeld57)
   (try clear hHeld58)
   (try clear hHeld59)
   (try clear hHeld60)
   have hkY := kp_set4 hk hg7 (.bool (decide (((rp + kq * (rq - rp))).num < 0))) (.slice N6 n6 o6) (.bool false) (.slice M6 p6 s6)
   have hb9 := (show Blk (qst _ _ 0 (decide (((rp + kq * (rq - rp))).num < 0)) false N6 M6 n6 o6 p6 s6) _ 42 #[.bool (decide (((rp + kq * (rq - rp))).num < 0)), .slice N6 n6 o6, .bool false, .slice M6 p6 s6] from hb7.put4)
   have hq9 := RQ.put4 (o := 0) (a := decide (((rp + kq * (rq - rp))).num < 0)) (b := false) (B := N6) (B' := M6) (j := n6) (d := o6) (j' := p6) (d' := s6) h6r hb7 NoInt.four
   obtain ⟨c0, c1, c2, c3, -, -, -, -⟩ := hb9.four
   simp only [qst, Nat.zero_add] at c0 c1 c2 c3
   have HUY := Lib.hid (HU6.out.trans (Below.mono hkY HU6.out.size))
   have hC9 := HCL.out _ (HU6.out.trans (Below.mono hkY HU6.out.size)) _ _ _ _ _ _ _ _ _ (RQ.arg hq9 HLS.out (by decide))
   have hka := hp.alloc (.cells #[.bool (decide (((rp + kq * (rq - rp))).num < 0)), .slice N6 n6 o6, .bool false, .slice M6 p6 s6] 42)
   have HUYb := Lib.hid (HU6.out.trans (Below.mono hka HU6.out.size))
   have hC9b := HCL.out _ (HU6.out.trans (Below.mono hka HU6.out.size)) _ _ _ _ _ _ _ _ _ (RQ.arg (RQ.below h6z ((Kp.refl v6).alloc (.cells #[.bool (decide (((rp + kq * (rq - rp))).num < 0)), .slice N6 n6 o6, .bool false, .slice M6 p6 s6] 42))) HLS.out (by decide))
   clear hka h6z hb9 hq9 hkY hb7 h6r hk i0 i1 i2 i3 hkX HS12 TS TM TD
   cases bb
   ·generalize balB os bs (rp + kq * (rq - rp)) = cc at *
    have HC9 := Lib.hid hC9
    have HC9b := Lib.hid hC9b
    clear hC9 hC9b
    go_wp2_with fail
    (first | refine HC9.out.mono ?_ | refine HC9b.out.mono ?_)
    rintro e y1 ⟨rfl, hby⟩
    have HF : Hid (Below w.heap.size w y1) := Lib.hid (by first | exact HUY.out.trans (hby.mono HUY.out.size) | exact HUYb.out.trans (hby.mono HUYb.out.size))
    clear hby HC9 HC9b HUY HUYb
    go_wp2
    go_ret
    exact ⟨rfl, HF.out⟩
   ·rw [HMC.out HBA.out HBB.out] at hC9 hC9b
    have HC9 := Lib.hid hC9
    have HC9b := Lib.hid hC9b
    clear hC9 hC9b
    go_wp2_with fail
    (first | refine HC9.out.mono ?_ | refine HC9b.out.mono ?_)
    rintro e y1 ⟨rfl, hby⟩
    have HF : Hid (Below w.heap.size w y1) := Lib.hid (by first | exact HUY.out.trans (hby.mono HUY.out.size) | exact HUYb.out.trans (hby.mono HUYb.out.size))
    clear hby HC9 HC9b HUY HUYb
    go_wp2
    go_ret
    exact ⟨rfl, HF.out⟩
  exact AllReadyH.nil

end Go.Proofs.YtjajigkacccdgaaGreat
