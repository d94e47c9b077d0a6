/-
fill of package stack. No statement of the seat is proved here; no conditions beyond those of each theorem.
-/
import Derived.Test.YtjajigkacccdgaaGreatTdBE
import Derived.Test.YtjajigkacccdgaaGreatTdBG
namespace Go.Proofs.YtjajigkacccdgaaGreat
set_option linter.unusedVariables false
set_option linter.unusedSimpArgs false
open Go.RowKit
open Wd

/-- The levels as a curve. -/
def lvQ (lv : List St.Lv) : List (Int × Int) := lv.map fun x => (x.2.1, x.1)
theorem lvQ_len (lv : List St.Lv) : (lvQ lv).length = lv.length := by simp [lvQ]
theorem lvQ_fst (lv : List St.Lv) (k : Nat) : ((lvQ lv)[k]?.getD (0, 0)).1 = (lv[k]?.getD Lv0).2.1 := by
 unfold lvQ
 rw [List.getElem?_map]
 cases lv[k]? <;> rfl
theorem lvQ_snd (lv : List St.Lv) (k : Nat) : ((lvQ lv)[k]?.getD (0, 0)).2 = (lv[k]?.getD Lv0).1 := by
 unfold lvQ
 rw [List.getElem?_map]
 cases lv[k]? <;> rfl
def OkQ (l : List (Int × Int)) : Prop := ∀ s ∈ l, 0 < s.1 ∧ s.1 ≤ 16000000
theorem VL.okQ {up : Bool} {n : Nat} {lv : List St.Lv} (h : VL up n lv) : OkQ (lvQ lv) := fun s hs => by
 obtain ⟨x, hx, rfl⟩ := List.mem_map.1 hs
 exact h.qty x hx
theorem restL_bd {l : List (Int × Int)} {q : Rat} {Nn Nd : Nat} (h0 : 0 ≤ q) (hok : OkQ l) (hn : q.num.natAbs < Nn) (hd : q.den < Nd) : ∀ k, k ≤ l.length → 0 ≤ restAt l q k ∧ (restAt l q k).num.natAbs < Nn ∧ (restAt l q k).den < Nd
 | 0, _ => ⟨h0, hn, hd⟩
 | k + 1, hk => by
  obtain ⟨i1, i2, i3⟩ := restL_bd h0 hok hn hd k (by omega)
  have hb := hok _ (getD_mem (d := (0, 0)) (show k < l.length by omega))
  exact rest_bd i1 (by omega) i2 i3
theorem partL_bd {l : List (Int × Int)} {q : Rat} {Nn Nd : Nat} (h0 : 0 ≤ q) (hok : OkQ l) (hn : q.num.natAbs < Nn) (hd : q.den < Nd) (hN : 16000000 < Nn) (hD : 1 < Nd) {k : Nat} (hk : k < l.length) : (partAt l q k).num.natAbs < Nn ∧ (partAt l q k).den < Nd := by
 obtain ⟨i1, i2, i3⟩ := restL_bd h0 hok hn hd k (by omega)
 have hb := hok _ (getD_mem (d := (0, 0)) hk)
 unfold partAt lessQ
 split
 ·refine ⟨?_, hD⟩
  show (l[k]?.getD (0, 0)).1.natAbs < Nn
  omega
 ·exact ⟨i2, i3⟩

set_option maxRecDepth 100000 in
set_option maxHeartbeats 8000000 in
theorem fill_ok (M Nn Nd : Nat) (HO : WOK M) (hM1 : 2 * (Nn * Nd) ≤ M) (hM2 : Nd * Nd ≤ M) (hnm : Nn ≤ M) (hdm : Nd ≤ M) (hN : 768000000 < Nn) (hN2 : Nn ≤ M) (hD : 1 < Nd)
  (up : Bool) (A : Option Addr) (n nn c : Nat) (lv : List St.Lv) (an an' : Bool) (aA aA' : Option Addr) (ak ac ak' ac' : Nat) (q : Rat) (w : World) (h : LvAt w A n nn lv) (hq : QAt Nn Nd w an aA ak ac an' aA' ak' ac' q)
  (hv : VL up nn lv) (h0 : 0 ≤ q) (h1 : q ≤ (totI lv : Int)) :
  Calls Tryz.prog 84 #[.slice A n c, .agg #[.bool an, .slice aA ak ac, .bool an', .slice aA' ak' ac']] w
   (fun e w' => ∃ g ps, e = .returned (.tuple #[.slice (some ⟨g, 0, none⟩) n n, .int .i64 0]) ∧ QRow w' g n ps ∧ (∀ j, j < n → ps[j]?.getD 0 = partAt (lvQ lv) q j) ∧ w.heap.size ≤ g ∧ Below w.heap.size w w') := by
 have hln := h.1
 have hn : n ≤ 48 := by have := hv.len; omega
 have hbd := tot_bd lv hv.qty
 have hok := hv.okQ
 have hN3 : 16000000 < Nn := by omega
 have CC := fun W (hW : Below w.heap.size w W) => check_ok up A n nn c lv W (h.below hW) hv
 have SM := fun W (hW : Below w.heap.size w W) => total_ok up A n nn c lv W (h.below hW) hv
 have SG := fun W (hW : Below w.heap.size w W) => qsign_any an an' aA aA' ak ac ak' ac' q W (hq.below hW)
 have hsg : decide (sgnQ q < 0) = false := by
  have := Rat.num_nonneg.2 h0
  unfold sgnQ cmpI
  split
  ·omega
  ·split <;> simp
 have hcm : decide (0 < cmpQ q ((totI lv : Int) : Rat)) = false := by
  unfold cmpQ
  split
  ·simp
  ·rw [if_neg (by grind)]; simp
 have FI := fun W => qfromInt64_any (totI lv) W (by omega) (by omega)
 have hCM : ∀ W (hW : Below w.heap.size w W) (B B' : Option Addr) (k d k' d' : Nat), k ≤ d → k' ≤ d' → Wat W B k (digs ((totI lv : Int) : Rat).num.natAbs) → Wat W B' k' (denW ((totI lv : Int) : Rat).den) →
   Calls Tryz.prog 43 #[.agg #[.bool an, .slice aA ak ac, .bool an', .slice aA' ak' ac'], .agg #[.bool (decide (((totI lv : Int) : Rat).num < 0)), .slice B k d, .bool false, .slice B' k' d']] W fun e w' => e = .returned (.int .i64 (cmpQ q ((totI lv : Int) : Rat))) ∧ Below W.heap.size W w' := by
  intro W hW B B' k d k' d' hk hk' h5 h6
  refine qcmp_any (Nn := Nn) (Nd := Nd) an an' _ false aA aA' B B' ak ac ak' ac' k d k' d' q _ W (hq.below hW) (qat_canon hk hk' h5 h6 ?_ ?_ ?_ hD)
  ·rw [← h5.1, show ((totI lv : Int) : Rat).num = totI lv from rfl]
   exact Nat.le_trans (len_le_two (by omega)) (by omega)
  ·rw [← h6.1, show ((totI lv : Int) : Rat).den = 1 from rfl]; simp [denW]
  ·show (totI lv).natAbs < Nn; omega
 have HLN : Hid ((lvQ lv).length = n) := Lib.hid (by rw [lvQ_len]; exact hln)
 generalize sgnQ q = sq at *
 generalize cmpQ q ((totI lv : Int) : Rat) = cq at *
 generalize hqr : ((totI lv : Int) : Rat) = qs at *
 have hs1 : 0 ≤ totI lv := by omega
 have hs2 : totI lv ≤ 768000000 := by omega
 generalize totI lv = sl at *
 have CC := Lib.hid CC
 have SM := Lib.hid SM
 have SG := Lib.hid SG
 have FI := Lib.hid FI
 have HCM := Lib.hid hCM
 have HQ := Lib.hid hq
 have HST := Lib.hid h
 generalize hlq : lvQ lv = l at *
 have HLQ := Lib.hid hlq
 clear hlq hln
 have hmk := fun w => run_make_Q n (by omega) w
 clear hCM hbd hqr h h1 hv hq
 go_enter Tryz.func84, Tryz.ntmps84
 go_wp2_with fail
 obtain ⟨hB0, hBW, hsz⟩ := pre1 w 42 #[.bool an, .slice aA ak ac, .bool an', .slice aA' ak' ac']
 generalize w.alloc (.cells #[.bool an, .slice aA ak ac, .bool an', .slice aA' ak' ac'] 42) = W at *
 have HSZ := Lib.hid hsz
 clear hsz
 refine (CC.out W hBW).mono ?_
 rintro e w1 ⟨rfl, hb1⟩
 have hB0 := hB0.below hb1 hB0.lt
 have hBW : Below w.heap.size w w1 := hBW.trans (hb1.mono hBW.size)
 clear hb1 HSZ CC
 have hBK : ∀ w', Kp w1 w' → Below w.heap.size w w' := fun w' hk => hBW.trans (Below.mono hk hBW.size)
 have HBK := Lib.hid hBK
 clear hBK
 have s5 := Kp.refl w1
 go_wp2_with fail
 have hS : ∀ w', Kp w1 w' → (w'.cell? ⟨w.heap.size, 0, none⟩ = some (.bool an) ∧ w'.cell? ⟨w.heap.size, 1, none⟩ = some (.slice aA ak ac) ∧ w'.cell? ⟨w.heap.size, 2, none⟩ = some (.bool an') ∧ w'.cell? ⟨w.heap.size, 3, none⟩ = some (.slice aA' ak' ac')) ∧ Kp w1 w' := fun w' hk => ⟨⟨(hk.blk hB0).cell 0, (hk.blk hB0).cell 1, (hk.blk hB0).cell 2, (hk.blk hB0).cell 3⟩, hk⟩
 have HS := Lib.hid hS
 clear hS
 go_region_held3 (fun w' => (w'.cell? ⟨w.heap.size, 0, none⟩ = some (.bool an) ∧ w'.cell? ⟨w.heap.size, 1, none⟩ = some (.slice aA ak ac) ∧ w'.cell? ⟨w.heap.size, 2, none⟩ = some (.bool an') ∧ w'.cell? ⟨w.heap.size, 3, none⟩ = some (.slice aA' ak' ac')) ∧ Kp w1 w')
  (first | (with_reducible refine HS.out _ ?_; with_reducible assumption) | (with_reducible refine HS.out _ (Kp.drew ?_); with_reducible assumption) | (with_reducible refine' HS.out _ (Kp.drew (And.right ?_)); rotate_left; with_reducible assumption))
  (first
   | (go_at_call 57; have hk := And.right ‹_ ∧ Kp w1 _›; refine (SG.out _ (HBK.out _ hk)).mono ?_; rintro e v1 ⟨rfl, hb1⟩; have hr1 := hk.trans hb1; clear hb1)
   | (go_at_call 29; have hk := And.right ‹_ ∧ Kp w1 _›; refine (SM.out _ (HBK.out _ hk)).mono ?_; rintro e v2 ⟨rfl, hb2⟩; have hr2 := hk.trans hb2; clear hb2)
   | (go_at_call 40; have hk := And.right ‹_ ∧ Kp w1 _›; refine (FI.out _).mono ?_; rintro e v3 ⟨A3, k3, c3, A4, k4, c4, rfl, hk3, hk4, hW3, hW4, hF3, hF4, hb3⟩; have hr3 := hk.trans hb3; clear hb3)
   | (go_at_call 43; have hk := And.right ‹_ ∧ Kp w1 _›; refine (HCM.out _ (HBK.out _ hk) A3 A4 k3 c3 k4 c4 hk3 hk4 hW3 hW4).mono ?_; rintro e v4 ⟨rfl, hb4⟩; have hr4 := hk.trans hb4; clear hb4))
 rename_i hHeld
 obtain ⟨⟨c0, c1, c2, c3⟩, -⟩ := hHeld
 have hB4 : Below w.heap.size w v4 := HBK.out _ hr4
 have hB5 : Below w.heap.size w ((v4.alloc (.cells #[.bool an, .slice aA ak ac, .bool an', .slice aA' ak' ac'] 42)).alloc (.cells (madeCells qzero (n * 4)) 42)) := (hB4.alloc hB4.size _).alloc (Nat.le_trans hB4.size (by simp)) _
 have hQR := QRow.start (v4.alloc (.cells #[.bool an, .slice aA ak ac, .bool an', .slice aA' ak' ac'] 42)) n
 rw [World.size_alloc] at hQR
 have hst : AllR w Nn Nd v4.heap.size n l q 0 (List.replicate n 0) an aA ak ac an' aA' ak' ac' ((v4.alloc (.cells #[.bool an, .slice aA ak ac, .bool an', .slice aA' ak' ac'] 42)).alloc (.cells (madeCells qzero (n * 4)) 42)) :=
  ⟨hB5, (Blk.new v4 _ _).alloc _, HQ.out.below hB5, hQR, fun j hj => absurd hj (by omega)⟩
 have hgs : w.heap.size ≤ v4.heap.size := hB4.size
 clear hB4 hB5 hQR hW3 hW4 hF3 hF4 hk3 hk4 HCM FI SG SM HBK s5 hr1 hr2 hr3 hr4 HS
 go_wp2_with fail
 generalize (v4.alloc (.cells #[.bool an, .slice aA ak ac, .bool an', .slice aA' ak' ac'] 42)).alloc (.cells (madeCells qzero (n * 4)) 42) = W0 at *
 generalize List.replicate n (0 : Rat) = ps0 at *
 generalize v4.heap.size = g at *
 clear c0 c1 c2 c3 hmk
 go_loopw [33] (fun t wr => ∃ (k : Nat) (ps : List Rat) (bn : Bool) (bA : Option Addr) (bk bc : Nat) (bn' : Bool) (bA' : Option Addr) (bk' bc' : Nat), k ≤ n ∧ t = .int .i64 k ∧ Hid (AllR w Nn Nd g n l q k ps bn bA bk bc bn' bA' bk' bc' wr)) (fun t _ => n - (intOf t).toNat)
 case atStart => exact ⟨0, ps0, an, aA, ak, ac, an', aA', ak', ac', Nat.zero_le _, rfl, hst⟩
 case round =>
  clear hst
  obtain ⟨k, ps, bn, bA, bk, bc, bn', bA', bk', bc', hk, rfl, hR⟩ := hrel
  by_cases hlt : k < n
  ·obtain ⟨hB, hBx, hQx, hRow, hPs⟩ := hR.out
   obtain ⟨b, o, rfl, hb, hcell⟩ := HST.out.2 (by omega)
   obtain ⟨A2, c2', ⟨ck', ck, ck2⟩, -⟩ := hcell k hlt
   rw [← lvQ_snd, HLQ.out] at ck'
   rw [← lvQ_fst, HLQ.out] at ck
   have hck' := (hB.cell (p := ⟨b, o + k * 3, none⟩) hb).trans ck'
   have hck := (hB.cell (p := ⟨b, o + k * 3 + 1, none⟩) hb).trans ck
   have hck2 := (hB.cell (p := ⟨b, o + k * 3 + 2, none⟩) hb).trans ck2
   have hbad := hok _ (getD_mem (d := (0, 0)) (show k < l.length by rw [HLN.out]; exact hlt))
   have hrb := restL_bd (l := l) (q := q) h0 hok (HQ.out.bd).1 (HQ.out.bd).2 (k + 1) (by rw [HLN.out]; omega)
   have hr1 : restAt l q (k + 1) = restAt l q k - lessQ (restAt l q k) (l[k]?.getD (0, 0)).1 := rfl
   have hp1 : partAt l q k = lessQ (restAt l q k) (l[k]?.getD (0, 0)).1 := rfl
   have hz1 : g + 1 < wr.heap.size := by obtain ⟨_, cs, hbk, _⟩ := hRow; exact hbk.lt
   have FI := fun W => qfromInt64_any (l[k]?.getD (0, 0)).1 W (by omega) (by omega)
   have HMIN := fun (W : World) (B B' : Option Addr) (j d j' d' : Nat) (hW : QAt Nn Nd W bn bA bk bc bn' bA' bk' bc' (restAt l q k)) (h1 : j ≤ d) (h2 : j' ≤ d') (h3 : Wat W B j (digs (((l[k]?.getD (0, 0)).1 : Int) : Rat).num.natAbs)) (h4 : Wat W B' j' (denW (((l[k]?.getD (0, 0)).1 : Int) : Rat).den)) => qless_any M Nn Nd HO hnm hdm hW h1 h2 h3 h4 (by omega) hD hN2
   rw [← hp1] at hr1 HMIN
   have hpb := partL_bd (l := l) (q := q) h0 hok (HQ.out.bd).1 (HQ.out.bd).2 hN3 hD (k := k) (by rw [HLN.out]; exact hlt)
   have HSUB := fun (W : World) (B B' : Option Addr) (j d j' d' : Nat) (hW : QAt Nn Nd W bn bA bk bc bn' bA' bk' bc' (restAt l q k)) (h1 : j ≤ d) (h2 : j' ≤ d') (h3 : Wat W B j (digs (partAt l q k).num.natAbs)) (h4 : Wat W B' j' (denW (partAt l q k).den)) => qsub_any M Nn Nd HO hM1 hM2 bn bn' _ false bA bA' B B' bk bc bk' bc' j d j' d' (restAt l q k) (partAt l q k) W hW (qat_len HO hnm hdm h1 h2 h3 h4 hpb.1 hpb.2)
   rw [← hr1] at HSUB
   have FI := Lib.hid FI
   have HMIN := Lib.hid HMIN
   have HSUB := Lib.hid HSUB
   have HRB := Lib.hid hrb
   generalize hqv : (((l[k]?.getD (0, 0)).1 : Int) : Rat) = qk at *
   generalize (l[k]?.getD (0, 0)).1 = sq1 at *
   generalize (l[k]?.getD (0, 0)).2 = sp1 at *
   have hPs := Lib.hid hPs
   have hcell := Lib.hid hcell
   clear hbad hrb hr1 hp1 hqv hpb ck ck' ck2
   go_wp2_with fail
   have hBx := hBx.alloc (.cells #[.int .i64 sp1, .int .i64 sq1, .slice A2 nn c2'] 64)
   have hb9 : Below wr.heap.size wr (wr.alloc (.cells #[.int .i64 sp1, .int .i64 sq1, .slice A2 nn c2'] 64)) := (Below.refl _ _).alloc (Nat.le_refl _) _
   have hRow := hRow.below hb9
   have hQx := hQx.below hb9
   have hSt := Blk.new wr 64 #[.int .i64 sp1, .int .i64 sq1, .slice A2 nn c2']
   have hBw := hB.alloc hB.size (.cells #[.int .i64 sp1, .int .i64 sq1, .slice A2 nn c2'] 64)
   generalize wr.alloc (.cells #[.int .i64 sp1, .int .i64 sq1, .slice A2 nn c2'] 64) = W2 at *
   clear hb9 hck hck' hck2 hB
   have hRow' := Lib.hid hRow
   have hQx' := Lib.hid hQx
   have s5 := Kp.refl W2
   have s6 : RGB (g + 1) 42 W2 W2 := by obtain ⟨_, cs, hbk, _⟩ := hRow; exact RGB.start hbk
   have hki : (0 : Int) ≤ (k : Int) ∧ (k : Int) < (n : Int) := by omega
   obtain ⟨hki1, hki2⟩ := hki
   clear hRow hQx
   have hS : ∀ w', RGB (g + 1) 42 W2 w' → (w'.cell? ⟨g, 0, none⟩ = some (.bool bn) ∧ w'.cell? ⟨g, 1, none⟩ = some (.slice bA bk bc) ∧ w'.cell? ⟨g, 2, none⟩ = some (.bool bn') ∧ w'.cell? ⟨g, 3, none⟩ = some (.slice bA' bk' bc') ∧ w'.cell? ⟨wr.heap.size, 1, none⟩ = some (.int .i64 sq1)) ∧ RGB (g + 1) 42 W2 w' := fun w' hk => ⟨⟨(hk.blk hBx (by omega)).cell 0, (hk.blk hBx (by omega)).cell 1, (hk.blk hBx (by omega)).cell 2, (hk.blk hBx (by omega)).cell 3, (hk.blk hSt (by omega)).cell 1⟩, hk⟩
   have HS := Lib.hid hS
   clear hS
   go_region_held3 (fun w' => (w'.cell? ⟨g, 0, none⟩ = some (.bool bn) ∧ w'.cell? ⟨g, 1, none⟩ = some (.slice bA bk bc) ∧ w'.cell? ⟨g, 2, none⟩ = some (.bool bn') ∧ w'.cell? ⟨g, 3, none⟩ = some (.slice bA' bk' bc') ∧ w'.cell? ⟨wr.heap.size, 1, none⟩ = some (.int .i64 sq1)) ∧ RGB (g + 1) 42 W2 w')
    (first | (with_reducible refine HS.out _ ?_; with_reducible assumption) | (with_reducible refine HS.out _ (RGB.drew ?_); with_reducible assumption) | (with_reducible refine' HS.out _ (RGB.drew (And.right ?_)); rotate_left; with_reducible assumption) | (with_reducible refine' HS.out _ (RGB.set (And.right ?_) _ _ _ _ _ _ _ _); rotate_left; with_reducible assumption))
    (first
     | (go_at_call 40; have hk := And.right ‹_ ∧ RGB (g + 1) 42 W2 _›; refine (FI.out _).mono ?_; rintro e v5 ⟨A3, k3, c3, A4, k4, c4, rfl, hk3, hk4, hW3, hW4, hF3, hF4, hb3⟩; have hr3 := hk.call hb3; have hp3 : Kp W2 v5 := Kp.trans (Kp.drew s5) hb3; clear hb3)
     | (go_at_call 85; have hk := And.right ‹_ ∧ RGB (g + 1) 42 W2 _›; refine (HMIN.out _ A3 A4 k3 c3 k4 c4 (hQx'.out.below hp3) hk3 hk4 hW3 hW4).mono ?_; rintro e v6 ⟨A5, k5, c5, A6, k6, c6, rfl, hk5, hk6, hW5, hW6, hF5, hF6, hb4⟩; have hr4 := hk.call hb4; have hp4 : Kp W2 v6 := Kp.trans hp3 hb4; obtain ⟨_, _, _, _, _, _, i0, i1, i2, i3, i4, i5, i6, i7, -⟩ := (hRow'.out.below hp4).cells hlt; clear hb4))
   rename_i hHeld
   clear hHeld
   have e7 : (((v6.setCell ⟨g + 1, k * 4, none⟩ (.bool (decide ((partAt l q k).num < 0)))).setCell ⟨g + 1, k * 4 + 1, none⟩ (.slice A5 k5 c5)).setCell ⟨g + 1, k * 4 + 2, none⟩ (.bool false)).setCell ⟨g + 1, k * 4 + 3, none⟩ (.slice A6 k6 c6) = qst v6 (g + 1) (k * 4) (decide ((partAt l q k).num < 0)) false A5 A6 k5 c5 k6 c6 := rfl
   rw [e7]
   have hRow6 := hRow'.out.below hp4
   have hRow7 := hRow6.put hlt hk5 hk6 hW5 hW6
   obtain ⟨hlen6, cs6, hbk6, hni6, -⟩ := hRow6
   have hBx7 : Blk (qst v6 (g + 1) (k * 4) (decide ((partAt l q k).num < 0)) false A5 A6 k5 c5 k6 c6) g _ _ := (Kp.blk hp4 hBx).far4 (by omega)
   have hQx7 := (hQx'.out.below hp4).put4 (o := k * 4) (a := decide ((partAt l q k).num < 0)) (b := false) (A := A5) (A' := A6) (k := k5) (c := c5) (k' := k6) (c' := c6) hbk6 hni6
   have hB6 : Below w.heap.size w v6 := hBw.trans (Below.mono hp4 hBw.size)
   have hB7 : Below w.heap.size w (qst v6 (g + 1) (k * 4) (decide ((partAt l q k).num < 0)) false A5 A6 k5 c5 k6 c6) := below_qst hB6 (by omega)
   generalize qst v6 (g + 1) (k * 4) (decide ((partAt l q k).num < 0)) false A5 A6 k5 c5 k6 c6 = W7 at *
   clear e7 hr3 hr4 hp3 hp4 i0 i1 i2 i3 i4 i5 i6 i7 hW3 hW4 hF3 hF4 hk3 hk4 hW5 hW6 hF5 hF6 hk5 hk6 hbk6 hni6 s5 s6 hBw HS hSt hBx hRow' hQx' HMIN FI hB6
   have epk : (ps.set k (partAt l q k))[k]?.getD 0 = partAt l q k := by simp [hlen6, hlt]
   have hPs' : ∀ j, j < k + 1 → (ps.set k (partAt l q k))[j]?.getD 0 = partAt l q j := by
    intro j hj
    by_cases hjk : j = k
    ·rw [hjk]; exact epk
    ·rw [List.getElem?_set_ne (Ne.symm hjk)]; exact hPs.out j (by omega)
   have hPs' := Lib.hid hPs'
   obtain ⟨A8, k8, c8, A9, k9, c9, j0, j1, j2, j3, -, -, -, -, hk8, hk9, hW8, hW9⟩ := hRow7.cells hlt
   rw [epk] at j0 hW8 hW9
   generalize ps.set k (partAt l q k) = ps' at *
   have hrow := Lib.hid hRow7
   have hqx := Lib.hid hQx7
   have s5 := Kp.refl W7
   have s6 := RG4.start hBx7
   obtain ⟨x0, x1, x2, x3, y0, y1, y2, y3⟩ := hBx7.four
   clear hRow7 hQx7
   go_wp2_with fail
   go_region_with (first | (go_at_call 55; refine (HSUB.out _ A8 A9 k8 c8 k9 c9 (hqx.out.below (Kp.drew s5)) hk8 hk9 hW8 hW9).mono ?_; rintro e v8 ⟨A5, k5, c5, A6, k6, c6, rfl, hk5, hk6, hW5, hW6, hF5, hF6, hb4⟩; have hp4 : Kp W7 v8 := Kp.trans (Kp.drew s5) hb4; obtain ⟨i0, i1, i2, i3, i4, i5, i6, i7⟩ := (Kp.blk hp4 hBx7).four; clear hb4))
   all_goals
    have e8 : (((v8.setCell ⟨g, 0, none⟩ (.bool (decide ((restAt l q (k + 1)).num < 0)))).setCell ⟨g, 1, none⟩ (.slice A5 k5 c5)).setCell ⟨g, 2, none⟩ (.bool false)).setCell ⟨g, 3, none⟩ (.slice A6 k6 c6) = qst v8 g 0 (decide ((restAt l q (k + 1)).num < 0)) false A5 A6 k5 c5 k6 c6 := rfl
    rw [e8]
    have hbx8 := Kp.blk hp4 hBx7
    have hfin : AllR w Nn Nd g n l q (k + 1) ps' (decide ((restAt l q (k + 1)).num < 0)) A5 k5 c5 false A6 k6 c6 (qst v8 g 0 (decide ((restAt l q (k + 1)).num < 0)) false A5 A6 k5 c5 k6 c6) := by
     refine ⟨below_qst (hB7.trans (Below.mono hp4 hB7.size)) hgs, hbx8.put4, ?_, ?_, hPs'.out⟩
     ·exact qat_len HO hnm hdm hk5 hk6 (hW5.put4 hbx8 NoInt.four) (hW6.put4 hbx8 NoInt.four) HRB.out.2.1 HRB.out.2.2
     ·exact (hrow.out.below hp4).far4 (by omega) hbx8 NoInt.four
    generalize qst v8 g 0 (decide ((restAt l q (k + 1)).num < 0)) false A5 A6 k5 c5 k6 c6 = W8 at *
    have HF := Lib.hid hfin
    clear e8 hfin hbx8 i0 i1 i2 i3 i4 i5 i6 i7 x0 x1 x2 x3 y0 y1 y2 y3 hp4 hW5 hW6 hF5 hF6 hk5 hk6 hW8 hW9 hB7 j0 j1 j2 j3
    go_wp2
    go_roundw
    case rel => exact ⟨k + 1, ps', _, A5, k5, c5, false, A6, k6, c6, by omega, by go_num, HF.out⟩
    case measure => simp [intOf]; omega
  ·obtain rfl : k = n := by omega
   obtain ⟨hB, hBx, hQx, hRow, hPs⟩ := hR.out
   clear hR
   go_wp2
   go_ret2
   exact ⟨g + 1, ps, rfl, hRow, hPs, by omega, hB⟩

end Go.Proofs.YtjajigkacccdgaaGreat
