/-
The walk of ClearEquilibrium. No statement of the seat is proved here; no conditions beyond those of each theorem.
-/
import Derived.Test.YtnjpojpfiijlfaaGreatGN
import Derived.Test.YtnjpojpfiijlfaaGreatD1
namespace Go.Proofs.YtnjpojpfiijlfaaGreat
set_option linter.unusedVariables false
set_option linter.unusedSimpArgs false
open Go.RowKit
open Wd

set_option maxRecDepth 100000 in
set_option maxHeartbeats 4000000 in
theorem cequi_short (A B : Option Addr) (n c m d : Nat) (os bs : List (List (Int × Int))) (w : World) (h : CsAt w A n os) (h' : CsAt w B m bs) (hx : (longC os || longC bs) = true) : Calls Tryz.prog 17 #[.slice A n c, .slice B m d] w fun e w' => e = .returned (.bool true) ∧ Below w.heap.size w w' := by
  have HAW := Lib.hid (fun W => awake25_any W)
  have HL := Lib.hid (long25_any A B n c m d os bs w h h')
  rw [hx] at HL
  clear h h' hx
  go_enter Tryz.func17, Tryz.ntmps17
  go_wp2_with fail
  refine HL.out.mono ?_
  rintro e w1 ⟨rfl, hb1⟩
  have HB1 := Lib.hid hb1
  clear hb1 HL
  go_wp2_with fail
  refine (HAW.out _).mono ?_
  rintro e wz ⟨rfl, hbz⟩
  have HBZ := Lib.hid (HB1.out.trans (hbz.mono HB1.out.size))
  clear hbz
  go_wp2
  go_ret
  exact ⟨rfl, HBZ.out⟩

set_option maxRecDepth 100000 in
set_option maxHeartbeats 4000000 in
theorem cequi_no (A B : Option Addr) (n c m d : Nat) (os bs : List (List (Int × Int))) (w : World) (h : CsAt w A n os) (h' : CsAt w B m bs) (hlg : (longC os || longC bs) = false) (hck : ckB os bs ≠ 0) : Calls Tryz.prog 17 #[.slice A n c, .slice B m d] w fun e w' => e = .returned (.bool true) ∧ Below w.heap.size w w' := by
  have HAW := Lib.hid (fun W => awake25_any W)
  have HL := Lib.hid (long25_any A B n c m d os bs w h h')
  obtain ⟨l1, l2⟩ := Bool.or_eq_false_iff.1 hlg
  have HRA := Lib.hid (fun W (hW : Below w.heap.size w W) => run_no A B n c m d os bs W (h.below hW) (h'.below hW) (longC_small l1) (longC_small l2) hck)
  rw [hlg] at HL
  have dx : (ckB os bs != 0) = true := by simpa using hck
  generalize ckB os bs = er at *
  clear h h' hlg hck l1 l2
  go_enter Tryz.func17, Tryz.ntmps17
  go_wp2_with fail
  refine HL.out.mono ?_
  rintro e w1 ⟨rfl, hb1⟩
  have HB1 := Lib.hid hb1
  clear hb1 HL
  go_wp2_with fail
  refine (HAW.out _).mono ?_
  rintro e w2 ⟨rfl, hb2⟩
  have HB2 := Lib.hid (HB1.out.trans (hb2.mono HB1.out.size))
  clear hb2 HB1 HAW
  go_wp2_with fail
  refine (HRA.out w2 HB2.out).mono ?_
  rintro e w3 ⟨rfl, hb3⟩
  have HB3 := Lib.hid (HB2.out.trans (hb3.mono HB2.out.size))
  have hbx := Blk.new w3 92 #[.int .i64 0, .int .i64 0, .int .i64 0, .slice none 0 0, .slice none 0 0]
  obtain ⟨⟨x0, x1, x2, x3, x4⟩, -⟩ := hbx.five
  have HB4 := Lib.hid (HB3.out.alloc HB3.out.size (.cells #[.int .i64 0, .int .i64 0, .int .i64 0, .slice none 0 0, .slice none 0 0] 92))
  clear hb3 HB2 HRA hbx HB3
  go_wp2
  go_ret
  exact ⟨rfl, HB4.out⟩

theorem PrZ.bds {os bs : List (List (Int × Int))} {p : Int} (h : PrZ os bs p) (ho : PrB os) (hb : PrB bs) : -1000000 ≤ p ∧ p ≤ 1000000 := by
  rcases h with ⟨h1, _⟩ | ⟨h1, _⟩
  · have key : ∀ ls : List (List (Int × Int)), PrB ls → absI p ∈ absS ls → -1000000 ≤ p ∧ p ≤ 1000000 := fun ls hl hm => by
      obtain ⟨l, hl1, hd⟩ := List.mem_flatMap.1 hm
      obtain ⟨s, hs, e⟩ := List.mem_map.1 hd
      have h1 := hl l hl1 s hs
      have h2 := absI_or s.2
      have h3 := absI_or p
      omega
    rcases List.mem_cons.1 h1 with e | hm
    · have := absI_or p
      omega
    · rcases List.mem_append.1 hm with hm | hm
      · exact key os ho hm
      · exact key bs hb hm
  · omega
theorem Kp.st4 {W w' : World} (h : Kp W w') {g : Nat} (hg : W.heap.size ≤ g) (a b c d : Value) : Kp W ((((w'.setCell ⟨g, 0, none⟩ a).setCell ⟨g, 1, none⟩ b).setCell ⟨g, 2, none⟩ c).setCell ⟨g, 3, none⟩ d) :=
  (((h.set (p := ⟨g, 0, none⟩) hg a).set (p := ⟨g, 1, none⟩) hg b).set (p := ⟨g, 2, none⟩) hg c).set (p := ⟨g, 3, none⟩) hg d
theorem lo_sum {xs : List Int} {n : Nat} (hl : xs.length = n) (hx : ∀ i, i < n → 0 ≤ xs[i]?.getD 0 ∧ xs[i]?.getD 0 ≤ 3000000) : ∀ k, k ≤ n → 0 ≤ sumI (xs.take k) ∧ sumI (xs.take k) ≤ 3000000 * (k : Int)
  | 0, _ => by simp [sumI]
  | k + 1, h => by
    have ih := lo_sum hl hx k (by omega)
    have := hx k (by omega)
    rw [take_last (by omega)]
    omega
theorem aT_negL (l : List (Int × Int)) : aT (negL l) = aT l := by
  unfold aT negL
  rw [List.map_map]
  rfl
theorem Side.bd {ls : List (List (Int × Int))} {p z : Int} {xs : List Int} (h : Side ls p z xs) (hp : Pos ls) {i : Nat} (hi : i < ls.length) : 0 ≤ xs[i]?.getD 0 ∧ xs[i]?.getD 0 ≤ aT (ls[i]?.getD []) := by
  have h1 := h.lo i hi
  have h2 := h.hi i hi
  have h3 := aL_le_aM p (l := ls[i]?.getD []) (hp _ (getD_mem hi))
  omega

set_option maxRecDepth 100000 in
set_option maxHeartbeats 16000000 in
theorem cequi_yes (A B : Option Addr) (n c m d : Nat) (os bs : List (List (Int × Int))) (w : World) (h : CsAt w A n os) (h' : CsAt w B m bs) (hlg : (longC os || longC bs) = false) (hck : ckB os bs = 0) : Calls Tryz.prog 17 #[.slice A n c, .slice B m d] w fun e w' => e = .returned (.bool true) ∧ Below w.heap.size w w' := by
  have HAW := Lib.hid (fun W => awake25_any W)
  have HL := Lib.hid (long25_any A B n c m d os bs w h h')
  have HRA := Lib.hid (fun W (hW : Below w.heap.size w W) => run_ok A B n c m d os bs W (h.below hW) (h'.below hW) hck)
  rw [hlg] at HL
  have HX0 := Lib.hid h
  have HY0 := Lib.hid h'
  have HCK := Lib.hid hck
  obtain ⟨k1, k2, k3, k4⟩ := ckB_iff.1 hck
  have hn5 : n ≤ 5 := by have := h.1; omega
  have hm6 : m ≤ 6 := by have := h'.1; omega
  have HK3 := Lib.hid k3
  have HK4 := Lib.hid k4
  have HLA := Lib.hid h.1
  have HLB := Lib.hid h'.1
  clear h h' hlg hck k1 k2 k3 k4
  go_enter Tryz.func17, Tryz.ntmps17
  go_wp2_with fail
  refine HL.out.mono ?_
  rintro e w1 ⟨rfl, hb1⟩
  have HB1 := Lib.hid hb1
  clear hb1 HL
  go_wp2_with fail
  refine (HAW.out _).mono ?_
  rintro e w2 ⟨rfl, hb2⟩
  have HB2 := Lib.hid (HB1.out.trans (hb2.mono HB1.out.size))
  clear hb2 HB1 HAW
  go_wp2_with fail
  refine (HRA.out w2 HB2.out).mono ?_
  rintro e u1 ⟨z, p, wf, xs, ys, S, D, g1, g2, rfl, hv, hi1, hi2, -, -, hb1⟩
  rw [HLA.out, HLB.out]
  have hbo := Blk.new u1 92 #[.int .i64 z, .int .i64 p, .int .i64 wf, .slice (some ⟨g1, 0, none⟩) n n, .slice (some ⟨g2, 0, none⟩) m m]
  have kx := (Kp.refl u1).alloc (.cells #[.int .i64 z, .int .i64 p, .int .i64 wf, .slice (some ⟨g1, 0, none⟩) n n, .slice (some ⟨g2, 0, none⟩) m m] 92)
  have HU1 := Lib.hid (HB2.out.trans ((hb1.trans (Below.mono kx hb1.size)).mono HB2.out.size))
  have HV := Lib.hid hv
  have HI1 := Lib.hid (And.intro (hi1.below kx) (hi2.below kx))
  have hpb := PrZ.bds hv.pr (PrB.of HK3.out) (PrB.of HK4.out)
  obtain ⟨⟨x0, x1, x2, x3, x4⟩, -⟩ := hbo.five
  have HBO1 := Lib.hid hbo
  clear hv hb1 kx hbo hi1 hi2 HRA HB2
  go_wp2_with fail
  refine (qfromInt64_any p _ (by omega) (by omega)).mono ?_
  rintro e u2 ⟨A5, k5, c5, A6, k6, c6, rfl, hk5, hk6, hW5, hW6, -, -, hb2⟩
  have hU2 := HU1.out.trans (hb2.mono HU1.out.size)
  have hwq : WQ u2 ((p : Int) : Rat) A5 k5 c5 A6 k6 c6 := ⟨hk5, hk6, hW5, hW6⟩
  have HPP := Lib.hid hpb
  have hpz : p.natAbs < 1000000000000 := by omega
  have hqa := hwq.arg hpz
  generalize hpq : ((p : Int) : Rat) = pq at *
  have ky := (Kp.refl u2).alloc (.cells #[.bool (decide ((pq).num < 0)), .slice A5 k5 c5, .bool false, .slice A6 k6 c6] 42)
  have hbq := Blk.new u2 42 #[.bool (decide ((pq).num < 0)), .slice A5 k5 c5, .bool false, .slice A6 k6 c6]
  have HBO := Lib.hid (((HBO1.out.below hb2 HBO1.out.lt)).below ky (HBO1.out.below hb2 HBO1.out.lt).lt)
  have HI := Lib.hid (And.intro ((HI1.out.1.below hb2).below ky) ((HI1.out.2.below hb2).below ky))
  have HBQ := Lib.hid (And.intro hbq (hqa.below ky))
  have HU2 := Lib.hid (hU2.trans (Below.mono ky hU2.size))
  have HPQ := Lib.hid hpq
  clear hk5 hk6 hW5 hW6 hb2 hU2 hwq hpz hqa hpq ky hbq HBO1 HI1 HU1 x0 x1 x2 x3 x4 hpb
  go_wp2_with fail
  generalize u2.alloc (.cells #[.bool (decide ((pq).num < 0)), .slice A5 k5 c5, .bool false, .slice A6 k6 c6] 42) = W at *
  generalize u2.heap.size = gq at *
  generalize u1.heap.size = gx at *
  have hlx : xs.length = n := by rw [HV.out.x, shAll_len]; exact HLA.out
  have hly : ys.length = m := by rw [HV.out.y, shAll_len]; exact HLB.out
  obtain ⟨sd1, sd2⟩ := HV.out.sides HCK.out
  obtain ⟨bd1, bd2⟩ := HV.out.bounds HCK.out
  have hxb : ∀ i, i < n → 0 ≤ xs[i]?.getD 0 ∧ xs[i]?.getD 0 ≤ qsum (os[i]?.getD []) := fun i hi => by
    rw [qsum_aT]
    exact sd1.bd (Pos.of HK3.out) (by rw [HLA.out]; exact hi)
  have hyb : ∀ i, i < m → 0 ≤ ys[i]?.getD 0 ∧ ys[i]?.getD 0 ≤ qsum (bs[i]?.getD []) := fun i hi => by
    have := sd2.bd (Pos.of HK4.out).neg (i := i) (by rw [negs_len, HLB.out]; exact hi)
    rw [negs_get, aT_negL] at this
    rw [qsum_aT]
    exact this
  have q3 : ∀ {up : Bool} {l : List (Int × Int)}, chk up l = 0 → qsum l ≤ 3000000 := fun {up l} hl => by
    obtain ⟨_, j1, j2⟩ := curve_ok (curve_good hl)
    have := qsum_bd l j2
    omega
  have o1 : ∀ i, i < n → chk true (os[i]?.getD []) = 0 := fun i hi => HK3.out _ (getD_mem (by rw [HLA.out]; exact hi))
  have o2 : ∀ i, i < m → chk false (bs[i]?.getD []) = 0 := fun i hi => HK4.out _ (getD_mem (by rw [HLB.out]; exact hi))
  have sx := lo_sum hlx fun i hi => ⟨(hxb i hi).1, Int.le_trans (hxb i hi).2 (q3 (o1 i hi))⟩
  have sy := lo_sum hly fun i hi => ⟨(hyb i hi).1, Int.le_trans (hyb i hi).2 (q3 (o2 i hi))⟩
  rw [HPQ.out] at bd1 bd2
  have HLXX : Hid ((∀ k, k < n → sumI (xs.take (k + 1)) = sumI (xs.take k) + xs[k]?.getD 0 ∧ 0 ≤ sumI (xs.take k) ∧ sumI (xs.take k) ≤ 100000000 ∧ 0 ≤ xs[k]?.getD 0 ∧ xs[k]?.getD 0 ≤ 3000000) ∧ ∀ k, k < n → wlL (-1) pq (os[k]?.getD []) ≤ xs[k]?.getD 0 ∧ xs[k]?.getD 0 ≤ wlM (-1) pq (os[k]?.getD []) ∧ True ∧ chk true (os[k]?.getD []) = 0) :=
    Lib.hid ⟨fun k hk => ⟨take_last (by omega), (sx k (by omega)).1, by have := (sx k (by omega)).2; omega, (hxb k hk).1, Int.le_trans (hxb k hk).2 (q3 (o1 k hk))⟩, fun k hk => ⟨(bd1 k (by rw [HLA.out]; exact hk)).1, (bd1 k (by rw [HLA.out]; exact hk)).2, trivial, o1 k hk⟩⟩
  have HLY : Hid ((∀ k, k < m → sumI (ys.take (k + 1)) = sumI (ys.take k) + ys[k]?.getD 0 ∧ 0 ≤ sumI (ys.take k) ∧ sumI (ys.take k) ≤ 100000000 ∧ 0 ≤ ys[k]?.getD 0 ∧ ys[k]?.getD 0 ≤ 3000000) ∧ ∀ k, k < m → wlL 1 pq (bs[k]?.getD []) ≤ ys[k]?.getD 0 ∧ ys[k]?.getD 0 ≤ wlM 1 pq (bs[k]?.getD []) ∧ True ∧ chk false (bs[k]?.getD []) = 0) :=
    Lib.hid ⟨fun k hk => ⟨take_last (by omega), (sy k (by omega)).1, by have := (sy k (by omega)).2; omega, (hyb k hk).1, Int.le_trans (hyb k hk).2 (q3 (o2 k hk))⟩, fun k hk => ⟨(bd2 k (by rw [HLB.out]; exact hk)).1, (bd2 k (by rw [HLB.out]; exact hk)).2, trivial, o2 k hk⟩⟩
  have e1 : xs.take n = xs := by rw [← hlx]; exact List.take_length
  have e2 : ys.take m = ys := by rw [← hly]; exact List.take_length
  have HSM : Hid (sumI (xs.take n) = z ∧ sumI (ys.take m) = z) := Lib.hid ⟨by rw [e1]; exact sd1.sum, by rw [e2]; exact sd2.sum⟩
  have htr := HV.out.trade HCK.out
  rw [HLA.out, HLB.out] at htr
  have hwf0 := HV.out.nonneg HCK.out
  have HWF := Lib.hid (fun W' (G H : Option Addr) (gc hc : Nat) (hW : Below w.heap.size w W') (h1 : QsAt W' G n (castR xs)) (h2 : QsAt W' H m (castR ys)) => welfare_whole A B G H n c m d gc hc os bs xs ys W' (HX0.out.below hW) (HY0.out.below hW) HCK.out h1 h2 hxb hyb (by rw [sd1.sum, sd2.sum]))
  rw [← htr] at HWF
  have c1 := costs_bd HK3.out (xs := xs) (by rw [HLA.out]; exact hxb) n (by rw [HLA.out]; exact Nat.le_refl _)
  have c2 := costs_bd HK4.out (xs := ys) (by rw [HLB.out]; exact hyb) m (by rw [HLB.out]; exact Nat.le_refl _)
  have hwfb : wf.natAbs < 1000000000000000 := by omega
  have HWX := Lib.hid (fun W' (h1 : IsAt W' (some ⟨g1, 0, none⟩) n xs) => whole25_any (some ⟨g1, 0, none⟩) n n xs W' h1 (by omega) fun y hy => by
    obtain ⟨i, hi, rfl⟩ := List.mem_iff_getElem.1 hy
    have h1 := hxb i (by omega)
    have h2 := q3 (o1 i (by omega))
    rw [List.getElem?_eq_getElem hi] at h1
    simp only [Option.getD_some] at h1
    exact ⟨by omega, by omega⟩)
  have HWY := Lib.hid (fun W' (h1 : IsAt W' (some ⟨g2, 0, none⟩) m ys) => whole25_any (some ⟨g2, 0, none⟩) m m ys W' h1 (by omega) fun y hy => by
    obtain ⟨i, hi, rfl⟩ := List.mem_iff_getElem.1 hy
    have h1 := hyb i (by omega)
    have h2 := q3 (o2 i (by omega))
    rw [List.getElem?_eq_getElem hi] at h1
    simp only [Option.getD_some] at h1
    exact ⟨by omega, by omega⟩)
  have HII := Lib.hid (And.intro (HI.out.1.at hlx) (HI.out.2.at hly))
  have Hg1 : Hid ((∀ k, k < n → W.cell? ⟨g1, k, none⟩ = some (.int .i64 (xs[k]?.getD 0))) ∧ g1 < W.heap.size) := Lib.hid ⟨fun k hk => HI.out.1.cell (by omega), Blk.lt HI.out.1⟩
  have Hg2 : Hid ((∀ k, k < m → W.cell? ⟨g2, k, none⟩ = some (.int .i64 (ys[k]?.getD 0))) ∧ g2 < W.heap.size) := Lib.hid ⟨fun k hk => HI.out.2.cell (by omega), Blk.lt HI.out.2⟩
  have HX := Lib.hid (HX0.out.below HU2.out)
  have HY := Lib.hid (HY0.out.below HU2.out)
  clear hlx hly sd1 sd2 bd1 bd2 hxb hyb q3 o1 o2 sx sy e1 e2 htr c1 c2 HI HV HK3 HK4 HCK HX0 HY0 HLA HLB HPP HPQ
  go_loopw [8, 10] (fun tg t wr => ∃ k : Nat, k ≤ n ∧ t = .int .i64 k ∧ tg = .int .i64 (sumI (xs.take k)) ∧ Hid (Kp W wr)) (fun _ t _ => n - (intOf t).toNat)
  case atStart => exact ⟨0, Nat.zero_le _, rfl, rfl, Kp.refl W⟩
  case round =>
    obtain ⟨k, hk, rfl, rfl, hR⟩ := hrel
    by_cases hlt : k < n
    · obtain ⟨b, o, rfl, hb, hc⟩ := HX.out.2 (by omega)
      obtain ⟨A', n', c', hcell, hst⟩ := hc k hlt
      obtain ⟨hlo, hhi, hfit, hck⟩ := HLXX.out.2 k hlt
      have hsum := HLXX.out.1 k hlt
      have hcl := (hR.out.cell (p := ⟨b, o + k, none⟩) hb).trans hcell
      have hqx := HBQ.out.1.below hR.out HBQ.out.1.lt
      have hCT := fun W' (hW : Kp wr W') => supplyAt_any A' n' c' (os[k]?.getD []) _ false A5 A6 k5 c5 k6 c6 pq W' ((hst.below hR.out).below hW) ((HBQ.out.2.below hR.out).below hW) hck
      have hxc := fun W' (hW : Kp wr W') => (Below.cell (Kp.trans hR.out hW) (p := ⟨g1, k, none⟩) Hg1.out.2).trans (Hg1.out.1 k hlt)
      have hbc := fun W' (hW : Kp wr W') => ((HBO.out.below hR.out HBO.out.lt).below hW (HBO.out.below hR.out HBO.out.lt).lt).five.1.2.2.2.1
      generalize xs[k]?.getD 0 = x at *
      generalize wlL (-1) pq (os[k]?.getD []) = xl at *
      generalize wlM (-1) pq (os[k]?.getD []) = xm at *
      generalize hs1 : sumI (xs.take (k + 1)) = s1 at *
      generalize sumI (xs.take k) = s0 at *
      obtain rfl : s1 = s0 + x := hsum.1
      have wl1 : IntKind.i64.wrap (s0 + x) = s0 + x := IntWalk.i64_in _ (by omega)
      have n1 : ¬ x < xl := by omega
      have n2 : ¬ xm < x := by omega
      have k1 : (0 : Int) ≤ (k : Int) := by omega
      have k2 : (k : Int) < (n : Int) := by omega
      have hS : ∀ w', Kp wr w' → (w'.cell? ⟨b, o + k, none⟩ = some (.slice A' n' c') ∧ w'.cell? ⟨gq, 0, none⟩ = some (.bool (decide (pq.num < 0))) ∧ w'.cell? ⟨gq, 1, none⟩ = some (.slice A5 k5 c5) ∧ w'.cell? ⟨gq, 2, none⟩ = some (.bool false) ∧ w'.cell? ⟨gq, 3, none⟩ = some (.slice A6 k6 c6)) ∧ Kp wr w' := fun w' hk => ⟨⟨(Below.cell hk (p := ⟨b, o + k, none⟩) (Nat.lt_of_lt_of_le hb hR.out.size)).trans hcl, (hk.blk hqx).cell 0, (hk.blk hqx).cell 1, (hk.blk hqx).cell 2, (hk.blk hqx).cell 3⟩, hk⟩
      have HS := Lib.hid hS
      have HCT := Lib.hid hCT
      have HXC := Lib.hid hxc
      have HBC := Lib.hid hbc
      have HS1 := Lib.hid hs1
      have hk0 := Kp.refl wr
      clear hc hcell hst hlo hhi hfit hck hsum hcl hqx hCT hxc hbc hs1 hS
      go_wp2_with fail
      go_region_held3 (fun w' => (w'.cell? ⟨b, o + k, none⟩ = some (.slice A' n' c') ∧ w'.cell? ⟨gq, 0, none⟩ = some (.bool (decide (pq.num < 0))) ∧ w'.cell? ⟨gq, 1, none⟩ = some (.slice A5 k5 c5) ∧ w'.cell? ⟨gq, 2, none⟩ = some (.bool false) ∧ w'.cell? ⟨gq, 3, none⟩ = some (.slice A6 k6 c6)) ∧ Kp wr w')
        (first | (with_reducible refine HS.out _ ?_; with_reducible assumption) | (with_reducible refine HS.out _ (Kp.drew ?_); with_reducible assumption) | (with_reducible refine' HS.out _ (Kp.drew (And.right _)); rotate_left; with_reducible assumption))
        (first
          | (go_at_call 53; have hk := And.right ‹_ ∧ Kp wr _›; refine (HCT.out _ hk).mono ?_; rintro e v2 ⟨rfl, hb2⟩; have hk2 := Kp.trans hk hb2; clear hb2))
      have y1 := HXC.out v2 hk2
      have y2 := HBC.out v2 hk2
      have HF := Lib.hid (Kp.trans hR.out hk2)
      clear hk0 hk2 HS HCT HXC HBC hR
      go_wp2
      go_roundw
      case rel => exact ⟨k + 1, by omega, by go_num, by rw [HS1.out], HF.out⟩
      case measure => simp [intOf]; omega
    · obtain rfl : n = k := by omega
      go_wp2_with fail
      obtain ⟨wv, hwv⟩ : ∃ v, v = wr := ⟨_, rfl⟩
      subst hwv
      go_loopw [9, 14] (fun tg t wr => ∃ k : Nat, k ≤ m ∧ t = .int .i64 k ∧ tg = .int .i64 (sumI (ys.take k)) ∧ Hid (Kp W wr)) (fun _ t _ => m - (intOf t).toNat)
      case atStart => exact ⟨0, Nat.zero_le _, rfl, rfl, hR.out⟩
      case round =>
        obtain ⟨k, hk, rfl, rfl, hR⟩ := hrel
        by_cases hlt : k < m
        · obtain ⟨b, o, rfl, hb, hc⟩ := HY.out.2 (by omega)
          obtain ⟨A', n', c', hcell, hst⟩ := hc k hlt
          obtain ⟨hlo, hhi, hfit, hck⟩ := HLY.out.2 k hlt
          have hsum := HLY.out.1 k hlt
          have hcl := (hR.out.cell (p := ⟨b, o + k, none⟩) hb).trans hcell
          have hqx := HBQ.out.1.below hR.out HBQ.out.1.lt
          have hCT := fun W' (hW : Kp wr W') => demandAt_any A' n' c' (bs[k]?.getD []) _ false A5 A6 k5 c5 k6 c6 pq W' ((hst.below hR.out).below hW) ((HBQ.out.2.below hR.out).below hW) hck
          have hxc := fun W' (hW : Kp wr W') => (Below.cell (Kp.trans hR.out hW) (p := ⟨g2, k, none⟩) Hg2.out.2).trans (Hg2.out.1 k hlt)
          have hbc := fun W' (hW : Kp wr W') => ((HBO.out.below hR.out HBO.out.lt).below hW (HBO.out.below hR.out HBO.out.lt).lt).five.1.2.2.2.2
          generalize ys[k]?.getD 0 = x at *
          generalize wlL (1) pq (bs[k]?.getD []) = xl at *
          generalize wlM (1) pq (bs[k]?.getD []) = xm at *
          generalize hs1 : sumI (ys.take (k + 1)) = s1 at *
          generalize sumI (ys.take k) = s0 at *
          obtain rfl : s1 = s0 + x := hsum.1
          have wl1 : IntKind.i64.wrap (s0 + x) = s0 + x := IntWalk.i64_in _ (by omega)
          have n1 : ¬ x < xl := by omega
          have n2 : ¬ xm < x := by omega
          have k1 : (0 : Int) ≤ (k : Int) := by omega
          have k2 : (k : Int) < (m : Int) := by omega
          have hS : ∀ w', Kp wr w' → (w'.cell? ⟨b, o + k, none⟩ = some (.slice A' n' c') ∧ w'.cell? ⟨gq, 0, none⟩ = some (.bool (decide (pq.num < 0))) ∧ w'.cell? ⟨gq, 1, none⟩ = some (.slice A5 k5 c5) ∧ w'.cell? ⟨gq, 2, none⟩ = some (.bool false) ∧ w'.cell? ⟨gq, 3, none⟩ = some (.slice A6 k6 c6)) ∧ Kp wr w' := fun w' hk => ⟨⟨(Below.cell hk (p := ⟨b, o + k, none⟩) (Nat.lt_of_lt_of_le hb hR.out.size)).trans hcl, (hk.blk hqx).cell 0, (hk.blk hqx).cell 1, (hk.blk hqx).cell 2, (hk.blk hqx).cell 3⟩, hk⟩
          have HS := Lib.hid hS
          have HCT := Lib.hid hCT
          have HXC := Lib.hid hxc
          have HBC := Lib.hid hbc
          have HS1 := Lib.hid hs1
          have hk0 := Kp.refl wr
          clear hc hcell hst hlo hhi hfit hck hsum hcl hqx hCT hxc hbc hs1 hS
          go_wp2_with fail
          go_region_held3 (fun w' => (w'.cell? ⟨b, o + k, none⟩ = some (.slice A' n' c') ∧ w'.cell? ⟨gq, 0, none⟩ = some (.bool (decide (pq.num < 0))) ∧ w'.cell? ⟨gq, 1, none⟩ = some (.slice A5 k5 c5) ∧ w'.cell? ⟨gq, 2, none⟩ = some (.bool false) ∧ w'.cell? ⟨gq, 3, none⟩ = some (.slice A6 k6 c6)) ∧ Kp wr w')
            (first | (with_reducible refine HS.out _ ?_; with_reducible assumption) | (with_reducible refine HS.out _ (Kp.drew ?_); with_reducible assumption) | (with_reducible refine' HS.out _ (Kp.drew (And.right _)); rotate_left; with_reducible assumption))
            (first
              | (go_at_call 54; have hk := And.right ‹_ ∧ Kp wr _›; refine (HCT.out _ hk).mono ?_; rintro e v2 ⟨rfl, hb2⟩; have hk2 := Kp.trans hk hb2; clear hb2))
          have y1 := HXC.out v2 hk2
          have y2 := HBC.out v2 hk2
          have HF := Lib.hid (Kp.trans hR.out hk2)
          clear hk0 hk2 HS HCT HXC HBC hR
          go_wp2
          go_roundw
          case rel => exact ⟨k + 1, by omega, by go_num, by rw [HS1.out], HF.out⟩
          case measure => simp [intOf]; omega
        · obtain rfl : m = k := by omega
          rw [HSM.out.1, HSM.out.2]
          have hRR := hR.out
          obtain ⟨⟨x0, x1, x2, x3, x4⟩, -⟩ := (HBO.out.below hRR HBO.out.lt).five
          have hbo := HBO.out.below hRR HBO.out.lt
          have hS : ∀ w', Kp wr w' → (w'.cell? ⟨gx, 3, none⟩ = some (.slice (some ⟨g1, 0, none⟩) n n) ∧ w'.cell? ⟨gx, 4, none⟩ = some (.slice (some ⟨g2, 0, none⟩) m m)) ∧ Kp wr w' := fun w' hk => ⟨⟨(hk.blk hbo).cell 3, (hk.blk hbo).cell 4⟩, hk⟩
          have HS := Lib.hid hS
          have HIX := Lib.hid (fun W' (hW : Kp wr W') => HWX.out W' ((HII.out.1.below hRR).below hW))
          have HIY := Lib.hid (fun W' (hW : Kp wr W') => HWY.out W' ((HII.out.2.below hRR).below hW))
          have HBW := Lib.hid (HU2.out.trans (Below.mono hRR HU2.out.size))
          have HBO2 := Lib.hid hbo
          have hk0 := Kp.refl wr
          have HFI := Lib.hid (fun W' => qfromInt64_any wf W' (by omega) (by omega))
          have HEQ := Lib.hid (fun W' (B1 B1' B2 B2' : Option Addr) (bk bc bk' bc' j d j' d' : Nat) (h1 : WQ W' ((wf : Int) : Rat) B1 bk bc B1' bk' bc') (h2 : WQ W' ((wf : Int) : Rat) B2 j d B2' j' d') => qeqJ wf (by omega) h1 h2)
          generalize ((wf : Int) : Rat) = wq at *
          clear hS hbo x0 x1 x2 x3 x4 HWX HWY HII HBO HBQ HX HY HLXX HLY HSM Hg1 Hg2 hRR hR
          go_wp2_with fail
          go_region_held3 (fun w' => (w'.cell? ⟨gx, 3, none⟩ = some (.slice (some ⟨g1, 0, none⟩) n n) ∧ w'.cell? ⟨gx, 4, none⟩ = some (.slice (some ⟨g2, 0, none⟩) m m)) ∧ Kp wr w')
            (first | (with_reducible refine HS.out _ ?_; with_reducible assumption) | (with_reducible refine HS.out _ (Kp.drew ?_); with_reducible assumption) | (with_reducible refine' HS.out _ (Kp.drew (And.right ?_)); rotate_left; with_reducible assumption) | (with_reducible refine' HS.out _ (Kp.alloc (And.right ?_) _); rotate_left; with_reducible assumption) | (with_reducible refine' HS.out _ (Kp.alloc ?_ _); rotate_left; with_reducible assumption) | (with_reducible refine HS.out _ (Kp.drew (Kp.alloc ?_ _)); with_reducible assumption) | ((with_reducible refine' HS.out _ (Kp.st4 (And.right ?_) ?_ _ _ _ _)); rotate_left; (with_reducible assumption); first | exact Nat.le_refl _ | exact Below.size hp6 | exact Below.size hp5))
            (first
              | (go_at_call_of 74 (Value.slice (some ⟨g1, 0, none⟩) n n); have hk := And.right ‹_ ∧ Kp wr _›; refine (HIX.out _ hk).mono ?_; rintro e v5 ⟨G1, gc1, rfl, hqx, hb5⟩; have hp5 := Kp.trans hk hb5; (try have hN5 := Blk.below (Blk.drew (Blk.new wr 42 #[.bool false, .slice none 0 0, .bool false, .slice none 0 0])) hb5 (Nat.lt_of_lt_of_eq (Nat.lt_succ_self _) (World.size_alloc _ _).symm)); clear hk hb5)
              | (go_at_call_of 74 (Value.slice (some ⟨g2, 0, none⟩) m m); have hk := And.right ‹_ ∧ Kp wr _›; refine (HIY.out _ hk).mono ?_; rintro e v6 ⟨G2, gc2, rfl, hqy, hb6⟩; have hqx6 : QsAt v6 G1 n (castR xs) := (by first | exact hqx.below hb6 | exact (hqx.below (Kp.alloc (Kp.refl _) _)).below hb6); have hp6 := Kp.trans hk hb6; (try have hN6 := hN5.below hb6 hN5.lt); (try have hN6 := Blk.below (Blk.new v5 42 #[.bool false, .slice none 0 0, .bool false, .slice none 0 0]) hb6 (Nat.lt_of_lt_of_eq (Nat.lt_succ_self _) (World.size_alloc _ _).symm)); clear hk hb6)
              | (go_at_call 73; have hk := And.right ‹_ ∧ Kp wr _›; refine (HWF.out _ G1 G2 gc1 gc2 (HBW.out.trans (Below.mono hk HBW.out.size)) (by first | exact hqx6 | exact hqx6.below (Kp.alloc (Kp.refl _) _)) (by first | exact hqy | exact hqy.below (Kp.alloc (Kp.refl _) _))).mono ?_; rintro e v7 ⟨A7, k7, c7, A8, k8, c8, rfl, hC7, hb7⟩; have hp7 := Kp.trans hk hb7; (try (have hN7 := hN6.below hb7 hN6.lt; obtain ⟨z0, z1, z2, z3, z4, z5, z6, z7⟩ := Blk.four hN7)); (try (have hN7 := Blk.below (Blk.new v6 42 #[.bool false, .slice none 0 0, .bool false, .slice none 0 0]) hb7 (Nat.lt_of_lt_of_eq (Nat.lt_succ_self _) (World.size_alloc _ _).symm); obtain ⟨z0, z1, z2, z3, z4, z5, z6, z7⟩ := Blk.four hN7)); clear hk hb7))
          · have hVb : Blk (v7.alloc (.cells #[.bool (decide ((wq).num < 0)), .slice A7 k7 c7, .bool false, .slice A8 k8 c8] 42)) (v7.heap.size) 42 #[.bool (decide ((wq).num < 0)), .slice A7 k7 c7, .bool false, .slice A8 k8 c8] := Blk.new _ _ _
            have hVc : WQ (v7.alloc (.cells #[.bool (decide ((wq).num < 0)), .slice A7 k7 c7, .bool false, .slice A8 k8 c8] 42)) wq A7 k7 c7 A8 k8 c8 := hC7.wq.below (Kp.alloc (Kp.refl _) _)
            have hVk : Kp wr (v7.alloc (.cells #[.bool (decide ((wq).num < 0)), .slice A7 k7 c7, .bool false, .slice A8 k8 c8] 42)) := Kp.alloc hp7 _
            generalize v7.alloc (.cells #[.bool (decide ((wq).num < 0)), .slice A7 k7 c7, .bool false, .slice A8 k8 c8] 42) = V at *
            generalize hgg : v7.heap.size = g9 at *
            have hbo9 := HBO2.out.below hVk HBO2.out.lt
            have hS : ∀ w', Kp V w' → (w'.cell? ⟨gx, 0, none⟩ = some (.int .i64 z) ∧ w'.cell? ⟨gx, 2, none⟩ = some (.int .i64 wf) ∧ w'.cell? ⟨g9, 0, none⟩ = some (.bool (decide (wq.num < 0))) ∧ w'.cell? ⟨g9, 1, none⟩ = some (.slice A7 k7 c7) ∧ w'.cell? ⟨g9, 2, none⟩ = some (.bool false) ∧ w'.cell? ⟨g9, 3, none⟩ = some (.slice A8 k8 c8)) ∧ Kp V w' := fun w' hk => ⟨⟨(hk.blk hbo9).cell 0, (hk.blk hbo9).cell 2, (hk.blk hVb).cell 0, (hk.blk hVb).cell 1, (hk.blk hVb).cell 2, (hk.blk hVb).cell 3⟩, hk⟩
            have HS2 := Lib.hid hS
            have HVC := Lib.hid hVc
            have HEND := Lib.hid (HBW.out.trans (Below.mono hVk HBW.out.size))
            have hkV := Kp.refl V
            rename_i hHeld
            clear hHeld
            (try clear z0 z1 z2 z3 z4 z5 z6 z7 hN7)
            (try clear hN6)
            (try clear hN5)
            clear hgg hS hVc hVk hVb hbo9 HS HIX HIY HBW HBO2 HWF hqx hqy hqx6 hp5 hp6 hp7 hC7 hk0
            go_wp2_with fail
            go_region_held3 (fun w' => (w'.cell? ⟨gx, 0, none⟩ = some (.int .i64 z) ∧ w'.cell? ⟨gx, 2, none⟩ = some (.int .i64 wf) ∧ w'.cell? ⟨g9, 0, none⟩ = some (.bool (decide (wq.num < 0))) ∧ w'.cell? ⟨g9, 1, none⟩ = some (.slice A7 k7 c7) ∧ w'.cell? ⟨g9, 2, none⟩ = some (.bool false) ∧ w'.cell? ⟨g9, 3, none⟩ = some (.slice A8 k8 c8)) ∧ Kp V w')
              (first | (with_reducible refine HS2.out _ ?_; with_reducible assumption) | (with_reducible refine HS2.out _ (Kp.drew ?_); with_reducible assumption) | (with_reducible refine' HS2.out _ (Kp.drew (And.right ?_)); rotate_left; with_reducible assumption))
              (first
                | (go_at_call 50; have hk := And.right ‹_ ∧ Kp V _›; refine (HFI.out _).mono ?_; rintro e v8 ⟨A9, k9, c9, A0, k0, c0, rfl, hk9, hk0, hW9, hW0, -, -, hb8⟩; have hp8 := Kp.trans hk hb8; have HW8 := Lib.hid (show WQ v8 wq A9 k9 c9 A0 k0 c0 from ⟨hk9, hk0, hW9, hW0⟩); clear hk hb8 hk9 hk0 hW9 hW0)
                | (go_at_call 51; have hk := And.right ‹_ ∧ Kp V _›; refine (HEQ.out _ _ _ _ _ _ _ _ _ _ _ _ _ (HVC.out.below hk) HW8.out).mono ?_; rintro e v9 ⟨rfl, hb9⟩; have hp9 := Kp.trans hk hb9; clear hk hb9))
            have HF := Lib.hid (HEND.out.trans (Below.mono hp9 HEND.out.size))
            clear hp8 hp9 HS2 HVC HEND HW8 HFI HEQ
            go_wp2
            go_ret
            exact ⟨rfl, HF.out⟩
          · have hVb : Blk ((((v7.setCell ⟨v6.heap.size, 0, none⟩ (.bool (decide (wq.num < 0)))).setCell ⟨v6.heap.size, 1, none⟩ (.slice A7 k7 c7)).setCell ⟨v6.heap.size, 2, none⟩ (.bool false)).setCell ⟨v6.heap.size, 3, none⟩ (.slice A8 k8 c8)) (v6.heap.size) 42 #[.bool (decide ((wq).num < 0)), .slice A7 k7 c7, .bool false, .slice A8 k8 c8] := hN7.set4 _ _ _ _
            have hVc : WQ ((((v7.setCell ⟨v6.heap.size, 0, none⟩ (.bool (decide (wq.num < 0)))).setCell ⟨v6.heap.size, 1, none⟩ (.slice A7 k7 c7)).setCell ⟨v6.heap.size, 2, none⟩ (.bool false)).setCell ⟨v6.heap.size, 3, none⟩ (.slice A8 k8 c8)) wq A7 k7 c7 A8 k8 c8 := WQ.put4 (o := 0) hC7.wq hN7 NoInt.four
            have hVk : Kp wr ((((v7.setCell ⟨v6.heap.size, 0, none⟩ (.bool (decide (wq.num < 0)))).setCell ⟨v6.heap.size, 1, none⟩ (.slice A7 k7 c7)).setCell ⟨v6.heap.size, 2, none⟩ (.bool false)).setCell ⟨v6.heap.size, 3, none⟩ (.slice A8 k8 c8)) := Kp.st4 hp7 (Below.size hp6) _ _ _ _
            generalize (((v7.setCell ⟨v6.heap.size, 0, none⟩ (.bool (decide (wq.num < 0)))).setCell ⟨v6.heap.size, 1, none⟩ (.slice A7 k7 c7)).setCell ⟨v6.heap.size, 2, none⟩ (.bool false)).setCell ⟨v6.heap.size, 3, none⟩ (.slice A8 k8 c8) = V at *
            generalize hgg : v6.heap.size = g9 at *
            have hbo9 := HBO2.out.below hVk HBO2.out.lt
            have hS : ∀ w', Kp V w' → (w'.cell? ⟨gx, 0, none⟩ = some (.int .i64 z) ∧ w'.cell? ⟨gx, 2, none⟩ = some (.int .i64 wf) ∧ w'.cell? ⟨g9, 0, none⟩ = some (.bool (decide (wq.num < 0))) ∧ w'.cell? ⟨g9, 1, none⟩ = some (.slice A7 k7 c7) ∧ w'.cell? ⟨g9, 2, none⟩ = some (.bool false) ∧ w'.cell? ⟨g9, 3, none⟩ = some (.slice A8 k8 c8)) ∧ Kp V w' := fun w' hk => ⟨⟨(hk.blk hbo9).cell 0, (hk.blk hbo9).cell 2, (hk.blk hVb).cell 0, (hk.blk hVb).cell 1, (hk.blk hVb).cell 2, (hk.blk hVb).cell 3⟩, hk⟩
            have HS2 := Lib.hid hS
            have HVC := Lib.hid hVc
            have HEND := Lib.hid (HBW.out.trans (Below.mono hVk HBW.out.size))
            have hkV := Kp.refl V
            rename_i hHeld
            clear hHeld
            (try clear z0 z1 z2 z3 z4 z5 z6 z7 hN7)
            (try clear hN6)
            (try clear hN5)
            clear hgg hS hVc hVk hVb hbo9 HS HIX HIY HBW HBO2 HWF hqx hqy hqx6 hp5 hp6 hp7 hC7 hk0
            go_wp2_with fail
            go_region_held3 (fun w' => (w'.cell? ⟨gx, 0, none⟩ = some (.int .i64 z) ∧ w'.cell? ⟨gx, 2, none⟩ = some (.int .i64 wf) ∧ w'.cell? ⟨g9, 0, none⟩ = some (.bool (decide (wq.num < 0))) ∧ w'.cell? ⟨g9, 1, none⟩ = some (.slice A7 k7 c7) ∧ w'.cell? ⟨g9, 2, none⟩ = some (.bool false) ∧ w'.cell? ⟨g9, 3, none⟩ = some (.slice A8 k8 c8)) ∧ Kp V w')
              (first | (with_reducible refine HS2.out _ ?_; with_reducible assumption) | (with_reducible refine HS2.out _ (Kp.drew ?_); with_reducible assumption) | (with_reducible refine' HS2.out _ (Kp.drew (And.right ?_)); rotate_left; with_reducible assumption))
              (first
                | (go_at_call 50; have hk := And.right ‹_ ∧ Kp V _›; refine (HFI.out _).mono ?_; rintro e v8 ⟨A9, k9, c9, A0, k0, c0, rfl, hk9, hk0, hW9, hW0, -, -, hb8⟩; have hp8 := Kp.trans hk hb8; have HW8 := Lib.hid (show WQ v8 wq A9 k9 c9 A0 k0 c0 from ⟨hk9, hk0, hW9, hW0⟩); clear hk hb8 hk9 hk0 hW9 hW0)
                | (go_at_call 51; have hk := And.right ‹_ ∧ Kp V _›; refine (HEQ.out _ _ _ _ _ _ _ _ _ _ _ _ _ (HVC.out.below hk) HW8.out).mono ?_; rintro e v9 ⟨rfl, hb9⟩; have hp9 := Kp.trans hk hb9; clear hk hb9))
            have HF := Lib.hid (HEND.out.trans (Below.mono hp9 HEND.out.size))
            clear hp8 hp9 HS2 HVC HEND HW8 HFI HEQ
            go_wp2
            go_ret
            exact ⟨rfl, HF.out⟩
          · have hVb : Blk ((((v7.setCell ⟨v5.heap.size, 0, none⟩ (.bool (decide (wq.num < 0)))).setCell ⟨v5.heap.size, 1, none⟩ (.slice A7 k7 c7)).setCell ⟨v5.heap.size, 2, none⟩ (.bool false)).setCell ⟨v5.heap.size, 3, none⟩ (.slice A8 k8 c8)) (v5.heap.size) 42 #[.bool (decide ((wq).num < 0)), .slice A7 k7 c7, .bool false, .slice A8 k8 c8] := hN7.set4 _ _ _ _
            have hVc : WQ ((((v7.setCell ⟨v5.heap.size, 0, none⟩ (.bool (decide (wq.num < 0)))).setCell ⟨v5.heap.size, 1, none⟩ (.slice A7 k7 c7)).setCell ⟨v5.heap.size, 2, none⟩ (.bool false)).setCell ⟨v5.heap.size, 3, none⟩ (.slice A8 k8 c8)) wq A7 k7 c7 A8 k8 c8 := WQ.put4 (o := 0) hC7.wq hN7 NoInt.four
            have hVk : Kp wr ((((v7.setCell ⟨v5.heap.size, 0, none⟩ (.bool (decide (wq.num < 0)))).setCell ⟨v5.heap.size, 1, none⟩ (.slice A7 k7 c7)).setCell ⟨v5.heap.size, 2, none⟩ (.bool false)).setCell ⟨v5.heap.size, 3, none⟩ (.slice A8 k8 c8)) := Kp.st4 hp7 (Below.size hp5) _ _ _ _
            generalize (((v7.setCell ⟨v5.heap.size, 0, none⟩ (.bool (decide (wq.num < 0)))).setCell ⟨v5.heap.size, 1, none⟩ (.slice A7 k7 c7)).setCell ⟨v5.heap.size, 2, none⟩ (.bool false)).setCell ⟨v5.heap.size, 3, none⟩ (.slice A8 k8 c8) = V at *
            generalize hgg : v5.heap.size = g9 at *
            have hbo9 := HBO2.out.below hVk HBO2.out.lt
            have hS : ∀ w', Kp V w' → (w'.cell? ⟨gx, 0, none⟩ = some (.int .i64 z) ∧ w'.cell? ⟨gx, 2, none⟩ = some (.int .i64 wf) ∧ w'.cell? ⟨g9, 0, none⟩ = some (.bool (decide (wq.num < 0))) ∧ w'.cell? ⟨g9, 1, none⟩ = some (.slice A7 k7 c7) ∧ w'.cell? ⟨g9, 2, none⟩ = some (.bool false) ∧ w'.cell? ⟨g9, 3, none⟩ = some (.slice A8 k8 c8)) ∧ Kp V w' := fun w' hk => ⟨⟨(hk.blk hbo9).cell 0, (hk.blk hbo9).cell 2, (hk.blk hVb).cell 0, (hk.blk hVb).cell 1, (hk.blk hVb).cell 2, (hk.blk hVb).cell 3⟩, hk⟩
            have HS2 := Lib.hid hS
            have HVC := Lib.hid hVc
            have HEND := Lib.hid (HBW.out.trans (Below.mono hVk HBW.out.size))
            have hkV := Kp.refl V
            rename_i hHeld
            clear hHeld
            (try clear z0 z1 z2 z3 z4 z5 z6 z7 hN7)
            (try clear hN6)
            (try clear hN5)
            clear hgg hS hVc hVk hVb hbo9 HS HIX HIY HBW HBO2 HWF hqx hqy hqx6 hp5 hp6 hp7 hC7 hk0
            go_wp2_with fail
            go_region_held3 (fun w' => (w'.cell? ⟨gx, 0, none⟩ = some (.int .i64 z) ∧ w'.cell? ⟨gx, 2, none⟩ = some (.int .i64 wf) ∧ w'.cell? ⟨g9, 0, none⟩ = some (.bool (decide (wq.num < 0))) ∧ w'.cell? ⟨g9, 1, none⟩ = some (.slice A7 k7 c7) ∧ w'.cell? ⟨g9, 2, none⟩ = some (.bool false) ∧ w'.cell? ⟨g9, 3, none⟩ = some (.slice A8 k8 c8)) ∧ Kp V w')
              (first | (with_reducible refine HS2.out _ ?_; with_reducible assumption) | (with_reducible refine HS2.out _ (Kp.drew ?_); with_reducible assumption) | (with_reducible refine' HS2.out _ (Kp.drew (And.right ?_)); rotate_left; with_reducible assumption))
              (first
                | (go_at_call 50; have hk := And.right ‹_ ∧ Kp V _›; refine (HFI.out _).mono ?_; rintro e v8 ⟨A9, k9, c9, A0, k0, c0, rfl, hk9, hk0, hW9, hW0, -, -, hb8⟩; have hp8 := Kp.trans hk hb8; have HW8 := Lib.hid (show WQ v8 wq A9 k9 c9 A0 k0 c0 from ⟨hk9, hk0, hW9, hW0⟩); clear hk hb8 hk9 hk0 hW9 hW0)
                | (go_at_call 51; have hk := And.right ‹_ ∧ Kp V _›; refine (HEQ.out _ _ _ _ _ _ _ _ _ _ _ _ _ (HVC.out.below hk) HW8.out).mono ?_; rintro e v9 ⟨rfl, hb9⟩; have hp9 := Kp.trans hk hb9; clear hk hb9))
            have HF := Lib.hid (HEND.out.trans (Below.mono hp9 HEND.out.size))
            clear hp8 hp9 HS2 HVC HEND HW8 HFI HEQ
            go_wp2
            go_ret
            exact ⟨rfl, HF.out⟩
          · have hVb : Blk ((((v7.setCell ⟨wr.heap.size, 0, none⟩ (.bool (decide (wq.num < 0)))).setCell ⟨wr.heap.size, 1, none⟩ (.slice A7 k7 c7)).setCell ⟨wr.heap.size, 2, none⟩ (.bool false)).setCell ⟨wr.heap.size, 3, none⟩ (.slice A8 k8 c8)) (wr.heap.size) 42 #[.bool (decide ((wq).num < 0)), .slice A7 k7 c7, .bool false, .slice A8 k8 c8] := hN7.set4 _ _ _ _
            have hVc : WQ ((((v7.setCell ⟨wr.heap.size, 0, none⟩ (.bool (decide (wq.num < 0)))).setCell ⟨wr.heap.size, 1, none⟩ (.slice A7 k7 c7)).setCell ⟨wr.heap.size, 2, none⟩ (.bool false)).setCell ⟨wr.heap.size, 3, none⟩ (.slice A8 k8 c8)) wq A7 k7 c7 A8 k8 c8 := WQ.put4 (o := 0) hC7.wq hN7 NoInt.four
            have hVk : Kp wr ((((v7.setCell ⟨wr.heap.size, 0, none⟩ (.bool (decide (wq.num < 0)))).setCell ⟨wr.heap.size, 1, none⟩ (.slice A7 k7 c7)).setCell ⟨wr.heap.size, 2, none⟩ (.bool false)).setCell ⟨wr.heap.size, 3, none⟩ (.slice A8 k8 c8)) := Kp.st4 hp7 (Nat.le_refl _) _ _ _ _
            generalize (((v7.setCell ⟨wr.heap.size, 0, none⟩ (.bool (decide (wq.num < 0)))).setCell ⟨wr.heap.size, 1, none⟩ (.slice A7 k7 c7)).setCell ⟨wr.heap.size, 2, none⟩ (.bool false)).setCell ⟨wr.heap.size, 3, none⟩ (.slice A8 k8 c8) = V at *
            generalize hgg : wr.heap.size = g9 at *
            have hbo9 := HBO2.out.below hVk HBO2.out.lt
            have hS : ∀ w', Kp V w' → (w'.cell? ⟨gx, 0, none⟩ = some (.int .i64 z) ∧ w'.cell? ⟨gx, 2, none⟩ = some (.int .i64 wf) ∧ w'.cell? ⟨g9, 0, none⟩ = some (.bool (decide (wq.num < 0))) ∧ w'.cell? ⟨g9, 1, none⟩ = some (.slice A7 k7 c7) ∧ w'.cell? ⟨g9, 2, none⟩ = some (.bool false) ∧ w'.cell? ⟨g9, 3, none⟩ = some (.slice A8 k8 c8)) ∧ Kp V w' := fun w' hk => ⟨⟨(hk.blk hbo9).cell 0, (hk.blk hbo9).cell 2, (hk.blk hVb).cell 0, (hk.blk hVb).cell 1, (hk.blk hVb).cell 2, (hk.blk hVb).cell 3⟩, hk⟩
            have HS2 := Lib.hid hS
            have HVC := Lib.hid hVc
            have HEND := Lib.hid (HBW.out.trans (Below.mono hVk HBW.out.size))
            have hkV := Kp.refl V
            rename_i hHeld
            clear hHeld
            (try clear z0 z1 z2 z3 z4 z5 z6 z7 hN7)
            (try clear hN6)
            (try clear hN5)
            clear hgg hS hVc hVk hVb hbo9 HS HIX HIY HBW HBO2 HWF hqx hqy hqx6 hp5 hp6 hp7 hC7 hk0
            go_wp2_with fail
            go_region_held3 (fun w' => (w'.cell? ⟨gx, 0, none⟩ = some (.int .i64 z) ∧ w'.cell? ⟨gx, 2, none⟩ = some (.int .i64 wf) ∧ w'.cell? ⟨g9, 0, none⟩ = some (.bool (decide (wq.num < 0))) ∧ w'.cell? ⟨g9, 1, none⟩ = some (.slice A7 k7 c7) ∧ w'.cell? ⟨g9, 2, none⟩ = some (.bool false) ∧ w'.cell? ⟨g9, 3, none⟩ = some (.slice A8 k8 c8)) ∧ Kp V w')
              (first | (with_reducible refine HS2.out _ ?_; with_reducible assumption) | (with_reducible refine HS2.out _ (Kp.drew ?_); with_reducible assumption) | (with_reducible refine' HS2.out _ (Kp.drew (And.right ?_)); rotate_left; with_reducible assumption))
              (first
                | (go_at_call 50; have hk := And.right ‹_ ∧ Kp V _›; refine (HFI.out _).mono ?_; rintro e v8 ⟨A9, k9, c9, A0, k0, c0, rfl, hk9, hk0, hW9, hW0, -, -, hb8⟩; have hp8 := Kp.trans hk hb8; have HW8 := Lib.hid (show WQ v8 wq A9 k9 c9 A0 k0 c0 from ⟨hk9, hk0, hW9, hW0⟩); clear hk hb8 hk9 hk0 hW9 hW0)
                | (go_at_call 51; have hk := And.right ‹_ ∧ Kp V _›; refine (HEQ.out _ _ _ _ _ _ _ _ _ _ _ _ _ (HVC.out.below hk) HW8.out).mono ?_; rintro e v9 ⟨rfl, hb9⟩; have hp9 := Kp.trans hk hb9; clear hk hb9))
            have HF := Lib.hid (HEND.out.trans (Below.mono hp9 HEND.out.size))
            clear hp8 hp9 HS2 HVC HEND HW8 HFI HEQ
            go_wp2
            go_ret
            exact ⟨rfl, HF.out⟩

end Go.Proofs.YtnjpojpfiijlfaaGreat
