/-
Cost of package stack. Share of package stack at a whole quantity. No statement of the seat is proved here; no conditions beyond those of each theorem.
-/
import Derived.Test.YtjajigkacccdgaaGreatTdBH
namespace Go.Proofs.YtjajigkacccdgaaGreat
set_option linter.unusedVariables false
set_option linter.unusedSimpArgs false
open Go.RowKit
open Wd
attribute [local go_sem ↓] Go.wp_at_zero Go.wp_at_succ

theorem VL.prQ {up : Bool} {n : Nat} {lv : List St.Lv} (h : VL up n lv) : ∀ s ∈ lvQ lv, -1000000 ≤ s.2 ∧ s.2 ≤ 1000000 := fun s hs => by
 obtain ⟨x, hx, rfl⟩ := List.mem_map.1 hs
 exact h.price x hx

set_option maxRecDepth 100000 in
set_option maxHeartbeats 16000000 in
theorem kcost_ok (M Nn Nd Cn Cd : Nat) (HO : WOK M) (hNL : 768000000 < Nn)
  (up : Bool) (A : Option Addr) (n nn c : Nat) (lv : List St.Lv) (an an' : Bool) (aA aA' : Option Addr) (ak ac ak' ac' : Nat) (q : Rat) (w : World) (h : LvAt w A n nn lv) (hq : QAt Nn Nd w an aA ak ac an' aA' ak' ac' q)
  (hv : VL up nn lv) (h0 : 0 ≤ q) (h1 : q ≤ (totI lv : Int)) (HC : CostOK M Nn Nd Cn Cd (lvQ lv) q) :
  Calls Tryz.prog 32 #[.slice A n c, .agg #[.bool an, .slice aA ak ac, .bool an', .slice aA' ak' ac']] w (CstPost w (costAt (lvQ lv) q n)) := by
 have hln := h.1
 have hn : n ≤ 48 := by have := hv.len; omega
 have hok := hv.okQ
 have hpr := hv.prQ
 have T := fun W (hW : Below w.heap.size w W) => fill_ok M Nn Nd HO HC.nd HC.dd HC.nm HC.dm hNL HC.hn2 HC.hd up A n nn c lv an an' aA aA' ak ac ak' ac' q W (h.below hW) (hq.below hW) hv h0 h1
 have HT := Lib.hid T
 have HB := Lib.hid (hq.bd)
 have HST := Lib.hid h
 have HOK := Lib.hid hok
 have HPR := Lib.hid hpr
 have HLN : Hid ((lvQ lv).length = n) := Lib.hid (by rw [lvQ_len]; exact hln)
 generalize hlq : lvQ lv = l at *
 have HLQ := Lib.hid hlq
 clear hlq h hq hv h1 hok hpr hln T
 go_enter Tryz.func32, Tryz.ntmps32
 go_wp2_with fail
 obtain ⟨hB0, hB1, hBW, hsz⟩ := pre2 w 42 #[.bool an, .slice aA ak ac, .bool an', .slice aA' ak' ac'] 42 #[.bool false, .slice none 0 0, .bool false, .slice none 0 0]
 generalize (w.alloc (.cells #[.bool an, .slice aA ak ac, .bool an', .slice aA' ak' ac'] 42)).alloc (.cells #[.bool false, .slice none 0 0, .bool false, .slice none 0 0] 42) = W at *
 have HSZ := Lib.hid hsz
 clear hsz
 refine (HT.out W hBW).mono ?_
 rintro e w1 ⟨gr, ps, rfl, hRow, hPs, hgr, hb1⟩
 have hB0 := hB0.below hb1 hB0.lt
 have hB1 := hB1.below hb1 hB1.lt
 have hgs : w.heap.size + 1 + 1 ≤ W.heap.size := by have := HSZ.out; omega
 have hBw := hBW.trans (hb1.mono hBW.size)
 have hz1 := hb1.size
 have hrow := Lib.hid (hRow.below ((Below.refl _ w1).alloc (Nat.le_refl _) (.cells #[.bool false, .slice none 0 0, .bool false, .slice none 0 0] 42)))
 have HPS := Lib.hid hPs
 have hB1 := hB1.alloc (.cells #[.bool false, .slice none 0 0, .bool false, .slice none 0 0] 42)
 have hg := Blk.new w1 42 #[.bool false, .slice none 0 0, .bool false, .slice none 0 0]
 have hgl : gr < w1.heap.size := by obtain ⟨_, cs, hbk, _⟩ := hRow; exact hbk.lt
 have hBw2 := hBw.alloc hBw.size (.cells #[.bool false, .slice none 0 0, .bool false, .slice none 0 0] 42)
 have hst : CstR w w1.heap.size gr n l q ps 0 none 0 0 none 0 0 (w1.alloc (.cells #[.bool false, .slice none 0 0, .bool false, .slice none 0 0] 42)) := ⟨hBw2, hg, CQ.zero, hrow.out⟩
 clear hPs HT hBW hb1 HSZ hBw hRow hB0 hBw2 hg hrow
 go_wp2_with fail
 generalize w1.alloc (.cells #[.bool false, .slice none 0 0, .bool false, .slice none 0 0] 42) = W0 at *
 generalize w1.heap.size = g at *
 have HST0 := Lib.hid hst
 have HB1 := Lib.hid hB1
 clear hst hB1
 go_loopw [23] (fun t wr => ∃ (k : Nat) (A : Option Addr) (j c : Nat) (A' : Option Addr) (j' c' : Nat), k ≤ n ∧ t = .int .i64 k ∧ Hid (CstR w g gr n l q ps k A j c A' j' c' wr) ∧ Hid (Blk wr (w.heap.size + 1) 42 #[.bool false, .slice none 0 0, .bool false, .slice none 0 0])) (fun t _ => n - (intOf t).toNat)
 case atStart => exact ⟨0, none, 0, 0, none, 0, 0, Nat.zero_le _, rfl, HST0.out, HB1.out⟩
 case round =>
  clear HST0 HB1
  obtain ⟨k, B, bk, bc, B', bk', bc', hk, rfl, hR, hRB⟩ := hrel
  by_cases hlt : k < n
  ·obtain ⟨hB, hBx, hCx, hRow⟩ := hR.out
   obtain ⟨b, o, rfl, hb, hcell⟩ := HST.out.2 (by omega)
   obtain ⟨A2, c2', ⟨ck', ck, ck2⟩, -⟩ := hcell k hlt
   rw [← lvQ_snd, HLQ.out] at ck'
   rw [← lvQ_fst, HLQ.out] at ck
   have hck' := (hB.cell (p := ⟨b, o + k * 3, none⟩) hb).trans ck'
   have hck := (hB.cell (p := ⟨b, o + k * 3 + 1, none⟩) hb).trans ck
   have hck2 := (hB.cell (p := ⟨b, o + k * 3 + 2, none⟩) hb).trans ck2
   have hlen : k < l.length := by have := HLN.out; omega
   have hbad := HPR.out _ (getD_mem (d := (0, 0)) hlen)
   have hr1 : costAt l q (k + 1) = costAt l q k + partAt l q k * (((l[k]?.getD (0, 0)).2 : Int) : Rat) := rfl
   have hpb := partL_bd (l := l) (q := q) h0 HOK.out HB.out.1 HB.out.2 (by omega) HC.hd hlen
   have hs1 := HC.sum k (by omega)
   have hs2 := HC.sum (k + 1) hlen
   have hs3 := HC.prod k hlen
   have hps := HPS.out k hlt
   have FI := fun W => qfromInt64_any (l[k]?.getD (0, 0)).2 W (by omega) (by omega)
   have hpn : (((l[k]?.getD (0, 0)).2 : Int) : Rat).num.natAbs < Nn := by have := HC.hn; rw [Rat.num_intCast]; omega
   have hpd : (((l[k]?.getD (0, 0)).2 : Int) : Rat).den < Nd := by rw [Rat.den_intCast]; exact HC.hd
   have HMUL := fun (W : World) (B1 B1' B2 B2' : Option Addr) (j1 d1 j1' d1' j2 d2 j2' d2' : Nat) (h1 : j1 ≤ d1) (h2 : j1' ≤ d1') (h3 : Wat W B1 j1 (digs (partAt l q k).num.natAbs)) (h4 : Wat W B1' j1' (denW (partAt l q k).den)) (h5 : j2 ≤ d2) (h6 : j2' ≤ d2') (h7 : Wat W B2 j2 (digs (((l[k]?.getD (0, 0)).2 : Int) : Rat).num.natAbs)) (h8 : Wat W B2' j2' (denW (((l[k]?.getD (0, 0)).2 : Int) : Rat).den)) =>
    qmulq_any M Nn Nd HO HC.nn HC.dd _ false _ false B1 B1' B2 B2' j1 d1 j1' d1' j2 d2 j2' d2' (partAt l q k) (((l[k]?.getD (0, 0)).2 : Int) : Rat) W (qat_len HO HC.nm HC.dm h1 h2 h3 h4 hpb.1 hpb.2) (qat_len HO HC.nm HC.dm h5 h6 h7 h8 hpn hpd)
   have HADD := fun (W : World) (B2 B2' : Option Addr) (j2 d2 j2' d2' : Nat) (hx : CQ w.heap.size W (costAt l q k) B bk bc B' bk' bc') (h5 : j2 ≤ d2) (h6 : j2' ≤ d2') (h7 : Wat W B2 j2 (digs (partAt l q k * (((l[k]?.getD (0, 0)).2 : Int) : Rat)).num.natAbs)) (h8 : Wat W B2' j2' (denW (partAt l q k * (((l[k]?.getD (0, 0)).2 : Int) : Rat)).den)) =>
    qadd_any M Cn Cd HO HC.cnd HC.cdd _ false _ false B B' B2 B2' bk bc bk' bc' j2 d2 j2' d2' (costAt l q k) (partAt l q k * (((l[k]?.getD (0, 0)).2 : Int) : Rat)) W (hx.at HO HC.cn HC.cd hs1.1 hs1.2) (qat_len HO HC.cn HC.cd h5 h6 h7 h8 hs3.1 hs3.2)
   rw [← hr1] at HADD
   obtain ⟨A8, k8, c8, A9, k9, c9, j0, j1, j2, j3, -, -, -, -, hk8, hk9, hW8, hW9⟩ := hRow.cells hlt
   rw [hps] at j0 hW8 hW9
   have HFI := Lib.hid FI
   have HMULH := Lib.hid HMUL
   have HADDH := Lib.hid HADD
   generalize hqv : (((l[k]?.getD (0, 0)).2 : Int) : Rat) = qk at *
   generalize partAt l q k * qk = qm at *
   generalize partAt l q k = qp at *
   generalize (l[k]?.getD (0, 0)).1 = sq1 at *
   generalize (l[k]?.getD (0, 0)).2 = sp1 at *
   clear FI HMUL HADD hqv hps hr1 hbad hpb hs1 hs3 hs2 hpn hpd ck ck' ck2 hcell
   have hki : (0 : Int) ≤ (k : Int) ∧ (k : Int) < (n : Int) := by omega
   obtain ⟨hki1, hki2⟩ := hki
   have hbRB := hRB.out
   clear hRB
   go_wp2_with fail
   have hBx := hBx.alloc (.cells #[.int .i64 sp1, .int .i64 sq1, .slice A2 nn c2'] 64)
   have hbRB := hbRB.alloc (.cells #[.int .i64 sp1, .int .i64 sq1, .slice A2 nn c2'] 64)
   have hb9 : Below wr.heap.size wr (wr.alloc (.cells #[.int .i64 sp1, .int .i64 sq1, .slice A2 nn c2'] 64)) := (Below.refl _ _).alloc (Nat.le_refl _) _
   have hRow := hRow.below hb9
   have hCx := hCx.below hb9
   have hW8 := hW8.below hb9
   have hW9 := hW9.below hb9
   have hSt := Blk.new wr 64 #[.int .i64 sp1, .int .i64 sq1, .slice A2 nn c2']
   have hBw := hB.alloc hB.size (.cells #[.int .i64 sp1, .int .i64 sq1, .slice A2 nn c2'] 64)
   have hRW : ∃ cs, Blk (wr.alloc (.cells #[.int .i64 sp1, .int .i64 sq1, .slice A2 nn c2'] 64)) gr 42 cs ∧ cs[k * 4]? = some (.bool (decide (qp.num < 0))) ∧ cs[k * 4 + 1]? = some (.slice A8 k8 c8) ∧ cs[k * 4 + 2]? = some (.bool false) ∧ cs[k * 4 + 3]? = some (.slice A9 k9 c9) := by
    obtain ⟨_, cs, hbk, _⟩ := hR.out.2.2.2
    exact ⟨cs, hbk.alloc _, (hbk.cell _).symm.trans j0, (hbk.cell _).symm.trans j1, (hbk.cell _).symm.trans j2, (hbk.cell _).symm.trans j3⟩
   obtain ⟨cs7, hb7, f0, f1, f2, f3⟩ := hRW
   generalize hWW : wr.alloc (.cells #[.int .i64 sp1, .int .i64 sq1, .slice A2 nn c2'] 64) = W2 at *
   have hgz : g ≠ w.heap.size + 1 := by omega
   clear hWW hb9 hck hck' hck2 hB hR j0 j1 j2 j3
   have HCX := Lib.hid hCx
   have HROW := Lib.hid hRow
   have s5 := Kp.refl W2
   obtain ⟨t1, -, -⟩ := hSt.three
   obtain ⟨q0, q1, q2, q3, -⟩ := hBx.four
   have p0 := (hb7.cell (k * 4)).trans f0
   have p1 := (hb7.cell (k * 4 + 1)).trans f1
   have p2 := (hb7.cell (k * 4 + 2)).trans f2
   have p3 := (hb7.cell (k * 4 + 3)).trans f3
   have F0 := Lib.hid f0
   have F1 := Lib.hid f1
   have F2 := Lib.hid f2
   have F3 := Lib.hid f3
   clear hCx hRow f0 f1 f2 f3 hSt
   go_region_with (first
    | (go_at_call 40; refine (HFI.out _).mono ?_; rintro e v5 ⟨A3, k3, c3, A4, k4, c4, rfl, hk3, hk4, hW3, hW4, hF3, hF4, hb3⟩; have hp5 : Kp W2 v5 := Kp.trans (Kp.drew s5) hb3; have p0' := ((Kp.blk hp5 hb7).cell (k * 4)).trans F0.out; have p1' := ((Kp.blk hp5 hb7).cell (k * 4 + 1)).trans F1.out; have p2' := ((Kp.blk hp5 hb7).cell (k * 4 + 2)).trans F2.out; have p3' := ((Kp.blk hp5 hb7).cell (k * 4 + 3)).trans F3.out; obtain ⟨q0', q1', q2', q3', -⟩ := (Kp.blk hp5 hBx).four; clear hb3 hF3 hF4)
    | (go_at_call 54; refine (HMULH.out _ A8 A9 A3 A4 k8 c8 k9 c9 k3 c3 k4 c4 hk8 hk9 (hW8.below hp5) (hW9.below hp5) hk3 hk4 hW3 hW4).mono ?_; rintro e v6 ⟨A5, k5, c5, A6, k6, c6, rfl, hk5, hk6, hW5, hW6, hF5, hF6, hb4⟩; have hp6 : Kp W2 v6 := Kp.trans hp5 hb4; obtain ⟨q0'', q1'', q2'', q3'', -⟩ := (Kp.blk hp6 hBx).four; clear hb4 hF5 hF6)
    | (go_at_call 42; refine (HADDH.out _ A5 A6 k5 c5 k6 c6 (HCX.out.below hp6) hk5 hk6 hW5 hW6).mono ?_; rintro e v7 ⟨A7, k7, c7, B7, m7, d7, rfl, hk7, hm7, hW7, hV7, hF7, hG7, hb5⟩; have hp7 : Kp W2 v7 := Kp.trans hp6 hb5; have hz7 := Below.size hp6; obtain ⟨i0, i1, i2, i3, i4, i5, i6, i7⟩ := (Kp.blk hp7 hBx).four; clear hb5))
   all_goals
    have e8 : (((v7.setCell ⟨g, 0, none⟩ (.bool (decide ((costAt l q (k + 1)).num < 0)))).setCell ⟨g, 1, none⟩ (.slice A7 k7 c7)).setCell ⟨g, 2, none⟩ (.bool false)).setCell ⟨g, 3, none⟩ (.slice B7 m7 d7) = qst v7 g 0 (decide ((costAt l q (k + 1)).num < 0)) false A7 B7 k7 c7 m7 d7 := rfl
    rw [e8]
    have hbx8 := Kp.blk hp7 hBx
    have hz2 := hBw.size
    have hfin : CstR w g gr n l q ps (k + 1) A7 k7 c7 B7 m7 d7 (qst v7 g 0 (decide ((costAt l q (k + 1)).num < 0)) false A7 B7 k7 c7 m7 d7) := by
     refine ⟨below_qst (hBw.trans (Below.mono hp7 hBw.size)) (by omega), hbx8.put4, ?_, (HROW.out.below hp7).far4 (by omega) hbx8 NoInt.four⟩
     exact CQ.put4 ⟨hk7, hm7, hW7, hV7, hF7.mono (by omega), hG7.mono (by omega)⟩ hbx8 NoInt.four
    have hfin2 : Blk (qst v7 g 0 (decide ((costAt l q (k + 1)).num < 0)) false A7 B7 k7 c7 m7 d7) (w.heap.size + 1) 42 #[.bool false, .slice none 0 0, .bool false, .slice none 0 0] := (Kp.blk hp7 hbRB).far4 (by omega)
    generalize qst v7 g 0 (decide ((costAt l q (k + 1)).num < 0)) false A7 B7 k7 c7 m7 d7 = W8 at *
    have HF := Lib.hid hfin
    have HF2 := Lib.hid hfin2
    clear e8 hfin hfin2 hbx8 i0 i1 i2 i3 i4 i5 i6 i7 hp5 hp6 hp7 hW3 hW4 hW5 hW6 hW7 hV7 hF7 hG7 hk3 hk4 hk5 hk6 hk7 hm7 q0 q1 q2 q3 p0 p1 p2 p3 t1 hBw hBx hbRB hb7
    go_wp2
    go_roundw
    case rel => exact ⟨k + 1, A7, k7, c7, B7, m7, d7, by omega, by go_num, HF.out, HF2.out⟩
    case measure => simp [intOf]; omega
  ·obtain rfl : k = n := by omega
   obtain ⟨hB, hBx, hCx, hRow⟩ := hR.out
   have hbRB := hRB.out
   obtain ⟨q0, q1, q2, q3, -⟩ := hBx.four
   obtain ⟨r0, r1, r2, r3, r4, r5, r6, r7⟩ := hbRB.four
   have hfin : CstPost w (costAt l q k) (.returned (.tuple #[.agg #[.bool (decide ((costAt l q k).num < 0)), .slice B bk bc, .bool false, .slice B' bk' bc'], .int .i64 0])) (qst wr (w.heap.size + 1) 0 (decide ((costAt l q k).num < 0)) false B B' bk bc bk' bc') :=
    ⟨B, bk, bc, B', bk', bc', rfl, hCx.put4 hbRB NoInt.four, below_qst hB (by omega)⟩
   have hb8 : Blk (qst wr (w.heap.size + 1) 0 (decide ((costAt l q k).num < 0)) false B B' bk bc bk' bc') (w.heap.size + 1) _ _ := hbRB.put4 (o := 0)
   have e8 : (((wr.setCell ⟨w.heap.size + 1, 0, none⟩ (.bool (decide ((costAt l q k).num < 0)))).setCell ⟨w.heap.size + 1, 1, none⟩ (.slice B bk bc)).setCell ⟨w.heap.size + 1, 2, none⟩ (.bool false)).setCell ⟨w.heap.size + 1, 3, none⟩ (.slice B' bk' bc') = qst wr (w.heap.size + 1) 0 (decide ((costAt l q k).num < 0)) false B B' bk bc bk' bc' := rfl
   obtain ⟨d0, d1, d2, d3, -⟩ := Blk.four hb8
   have HF := Lib.hid hfin
   have HE := Lib.hid e8
   clear hfin hb8 hR hRB hCx hRow hB e8
   go_wp2
   rw [HE.out]
   refine bodyPost_ret (v := .tuple #[.agg #[.bool (decide ((costAt l q k).num < 0)), .slice B bk bc, .bool false, .slice B' bk' bc'], .int .i64 0]) ?_ rfl HF.out
   simp [results, Tryz.results32, go_sem, d0, d1, d2, d3]

end Go.Proofs.YtjajigkacccdgaaGreat

namespace Go.Proofs.YtjajigkacccdgaaGreat
set_option linter.unusedVariables false
set_option linter.unusedSimpArgs false
open Go.RowKit
open Wd
attribute [local go_sem ↓] Go.wp_at_zero Go.wp_at_succ

/-- What is left of t when the last j curves have given, and what the next gives. -/
def shRest (xs : List Int) (n : Nat) (t : Int) : Nat → Int
 | 0 => t
 | j + 1 => shRest xs n t j - min (shRest xs n t j) (xs[n - 1 - j]?.getD 0)
def shPart (xs : List Int) (n : Nat) (t : Int) (j : Nat) : Int := min (shRest xs n t j) (xs[n - 1 - j]?.getD 0)
def shRow (xs : List Int) (n : Nat) (t : Int) (ys : List Int) : Nat → List Int
 | 0 => ys
 | j + 1 => (shRow xs n t ys j).set (n - 1 - j) ((shRow xs n t ys j)[n - 1 - j]?.getD 0 + shPart xs n t j)
def shAll (lv : List St.Lv) (n : Nat) (z : Int) : Nat → List Int
 | 0 => List.replicate n 0
 | i + 1 => shRow (lv[i]?.getD Lv0).2.2 n (partI (lvQ lv) z i) (shAll lv n z i) n
theorem shRow_len (xs : List Int) (n : Nat) (t : Int) (ys : List Int) : ∀ j, (shRow xs n t ys j).length = ys.length
 | 0 => rfl
 | j + 1 => by rw [shRow, List.length_set, shRow_len xs n t ys j]
theorem shAll_len (lv : List St.Lv) (n : Nat) (z : Int) : ∀ i, (shAll lv n z i).length = n
 | 0 => by simp [shAll]
 | i + 1 => by rw [shAll, shRow_len, shAll_len lv n z i]
theorem shRest_bd {xs : List Int} {n : Nat} {t : Int} (hx : ∀ y ∈ xs, 0 ≤ y ∧ y ≤ 1000000) (hl : xs.length = n) (h0 : 0 ≤ t) : ∀ j, j ≤ n → 0 ≤ shRest xs n t j ∧ shRest xs n t j ≤ t
 | 0, _ => ⟨h0, Int.le_refl _⟩
 | j + 1, hj => by
  obtain ⟨i1, i2⟩ := shRest_bd hx hl h0 j (by omega)
  have := hx _ (getD_mem (d := 0) (show n - 1 - j < xs.length by omega))
  rw [shRest]
  omega
theorem shPart_bd {xs : List Int} {n : Nat} {t : Int} (hx : ∀ y ∈ xs, 0 ≤ y ∧ y ≤ 1000000) (hl : xs.length = n) (h0 : 0 ≤ t) {j : Nat} (hj : j < n) : 0 ≤ shPart xs n t j ∧ shPart xs n t j ≤ 1000000 := by
 obtain ⟨i1, i2⟩ := shRest_bd hx hl h0 j (by omega)
 have := hx _ (getD_mem (d := 0) (show n - 1 - j < xs.length by omega))
 unfold shPart
 omega
def BdR (c : Int) (ys : List Int) : Prop := ∀ i : Nat, 0 ≤ ys[i]?.getD 0 ∧ ys[i]?.getD 0 ≤ c
theorem shRow_bd {xs : List Int} {n : Nat} {t c : Int} {ys : List Int} (hx : ∀ y ∈ xs, 0 ≤ y ∧ y ≤ 1000000) (hl : xs.length = n) (hy : ys.length = n) (h0 : 0 ≤ t) (hc : BdR c ys) :
  ∀ j, j ≤ n → (∀ i : Nat, 0 ≤ (shRow xs n t ys j)[i]?.getD 0 ∧ (shRow xs n t ys j)[i]?.getD 0 ≤ c + 1000000) ∧ ∀ i : Nat, i < n - j → (shRow xs n t ys j)[i]?.getD 0 = ys[i]?.getD 0
 | 0, _ => ⟨fun i => by have := hc i; simp only [shRow]; omega, fun i _ => rfl⟩
 | j + 1, hj => by
  obtain ⟨i1, i2⟩ := shRow_bd hx hl hy h0 hc j (by omega)
  have hp := shPart_bd hx hl h0 (show j < n by omega)
  have hlen := shRow_len xs n t ys j
  constructor
  ·intro i
   rw [shRow, List.getElem?_set]
   split
   ·rename_i he
    subst he
    have e := i2 (n - 1 - j) (by omega)
    have := hc (n - 1 - j)
    rw [if_pos (by omega)]
    simp only [Option.getD_some]
    omega
   ·exact i1 i
  ·intro i hi
   rw [shRow, List.getElem?_set_ne (by omega)]
   exact i2 i (by omega)
theorem shAll_bd {up : Bool} {n : Nat} {lv : List St.Lv} (hv : VL up n lv) {z : Int} (h0 : ∀ i, i < lv.length → 0 ≤ partI (lvQ lv) z i) : ∀ i, i ≤ lv.length → BdR (1000000 * (i : Int)) (shAll lv n z i)
 | 0, _ => fun i => by simp [shAll, List.getElem?_replicate]; split <;> simp
 | i + 1, hi => fun k => by
  have ih := shAll_bd hv h0 i (by omega)
  have hp := hv.parts _ (getD_mem (d := Lv0) (show i < lv.length by omega))
  have := (shRow_bd hp.2 hp.1 (shAll_len lv n z i) (h0 i (by omega)) ih n (Nat.le_refl _)).1 k
  rw [shAll]
  have e : (1000000 : Int) * ((i + 1 : Nat) : Int) = 1000000 * (i : Int) + 1000000 := by omega
  rw [e]
  exact this
def castR (ys : List Int) : List Rat := ys.map fun y => ((y : Int) : Rat)
theorem castR_get (ys : List Int) (i : Nat) : (castR ys)[i]?.getD 0 = ((ys[i]?.getD 0 : Int) : Rat) := by
 unfold castR
 rw [List.getElem?_map]
 cases ys[i]? <;> rfl
theorem castR_set (ys : List Int) (i : Nat) (y : Int) : castR (ys.set i y) = (castR ys).set i ((y : Int) : Rat) := by
 unfold castR
 rw [List.map_set]
/-- A canonical rational, wherever it lies. -/
def WQ (w : World) (q : Rat) (A : Option Addr) (k c : Nat) (A' : Option Addr) (k' c' : Nat) : Prop := k ≤ c ∧ k' ≤ c' ∧ Wat w A k (digs q.num.natAbs) ∧ Wat w A' k' (denW q.den)
section
variable {w w' : World} {q : Rat} {A A' : Option Addr} {k c k' c' : Nat}
theorem WQ.below (h : WQ w q A k c A' k' c') (hb : Below w.heap.size w w') : WQ w' q A k c A' k' c' := ⟨h.1, h.2.1, h.2.2.1.below hb, h.2.2.2.below hb⟩
theorem WQ.put4 {g o : Nat} {a b : Bool} {B B' : Option Addr} {j d j' d' : Nat} {t : TypeId} {cs : Array Value} (h : WQ w q A k c A' k' c') (hb : Blk w g t cs) (hn : NoInt cs) : WQ (qst w g o a b B B' j d j' d') q A k c A' k' c' :=
 ⟨h.1, h.2.1, h.2.2.1.put4 hb hn, h.2.2.2.put4 hb hn⟩
theorem WQ.at (h : WQ w q A k c A' k' c') (hn : q.num.natAbs < 1152921504606846976) (hd : q.den < 2) : QAt 1152921504606846976 2 w (decide (q.num < 0)) A k c false A' k' c' q :=
 qat_len wok_small (by omega) (by omega) h.1 h.2.1 h.2.2.1 h.2.2.2 hn hd
end
theorem qaddI (x y : Int) (hx : x.natAbs < 1000000000000) (hy : y.natAbs < 1000000000000) {W : World} {B B' B2 B2' : Option Addr} {bk bc bk' bc' j d j' d' : Nat} (h1 : WQ W (x : Rat) B bk bc B' bk' bc') (h2 : WQ W (y : Rat) B2 j d B2' j' d') :
  Calls Tryz.prog 42 #[.agg #[.bool (decide (((x : Int) : Rat).num < 0)), .slice B bk bc, .bool false, .slice B' bk' bc'], .agg #[.bool (decide (((y : Int) : Rat).num < 0)), .slice B2 j d, .bool false, .slice B2' j' d']] W (RetQ W ((x + y : Int) : Rat)) := by
 have := qadd_any 4611686018427387904 1152921504606846976 2 wok_small (by omega) (by omega) _ false _ false B B' B2 B2' bk bc bk' bc' j d j' d' (x : Rat) (y : Rat) W (h1.at (by rw [Rat.num_intCast]; omega) (by rw [Rat.den_intCast]; omega)) (h2.at (by rw [Rat.num_intCast]; omega) (by rw [Rat.den_intCast]; omega))
 rwa [← Rat.intCast_add] at this
theorem qsubI (x y : Int) (hx : x.natAbs < 1000000000000) (hy : y.natAbs < 1000000000000) {W : World} {B B' B2 B2' : Option Addr} {bk bc bk' bc' j d j' d' : Nat} (h1 : WQ W (x : Rat) B bk bc B' bk' bc') (h2 : WQ W (y : Rat) B2 j d B2' j' d') :
  Calls Tryz.prog 55 #[.agg #[.bool (decide (((x : Int) : Rat).num < 0)), .slice B bk bc, .bool false, .slice B' bk' bc'], .agg #[.bool (decide (((y : Int) : Rat).num < 0)), .slice B2 j d, .bool false, .slice B2' j' d']] W (RetQ W ((x - y : Int) : Rat)) := by
 have := qsub_any 4611686018427387904 1152921504606846976 2 wok_small (by omega) (by omega) _ false _ false B B' B2 B2' bk bc bk' bc' j d j' d' (x : Rat) (y : Rat) W (h1.at (by rw [Rat.num_intCast]; omega) (by rw [Rat.den_intCast]; omega)) (h2.at (by rw [Rat.num_intCast]; omega) (by rw [Rat.den_intCast]; omega))
 rwa [← Rat.intCast_sub] at this
theorem qminI (x y : Int) (hx : x.natAbs < 1000000000000) (hy : y.natAbs < 1000000000000) {W : World} {B B' B2 B2' : Option Addr} {bk bc bk' bc' j d j' d' : Nat} (h1 : WQ W (x : Rat) B bk bc B' bk' bc') (h2 : WQ W (y : Rat) B2 j d B2' j' d') :
  Calls Tryz.prog 85 #[.agg #[.bool (decide (((x : Int) : Rat).num < 0)), .slice B bk bc, .bool false, .slice B' bk' bc'], .agg #[.bool (decide (((y : Int) : Rat).num < 0)), .slice B2 j d, .bool false, .slice B2' j' d']] W (RetQ W ((min x y : Int) : Rat)) := by
 have := qless_any 4611686018427387904 1152921504606846976 2 wok_small (by omega) (by omega) (h1.at (by rw [Rat.num_intCast]; omega) (by rw [Rat.den_intCast]; omega)) h2.1 h2.2.1 h2.2.2.1 h2.2.2.2 (by omega) (by omega) (by omega)
 rwa [lessQ_whole] at this

end Go.Proofs.YtjajigkacccdgaaGreat
