/-
fill of package stack. Cost of package stack. Share of package stack at a whole quantity. Share of package stack at a whole quantity: the walk. Cost of package stack at a whole quantity. Share of package stack at a quantity above the total, and of the empty stack. No statement of the seat is proved here; no conditions beyond those of each theorem.
-/
import Derived.Test.YtnjpojpfiijlfaaGreatGG
import Derived.Test.YtnjpojpfiijlfaaGreatGM
namespace Go.Proofs.YtnjpojpfiijlfaaGreat
set_option linter.unusedVariables false
set_option linter.unusedSimpArgs false
open Go.RowKit
open Wd

/-- The levels as a curve. -/
def lvQ (lv : List St.Lv) : List (Int × Int) := lv.map fun x => (x.2.1, x.1)
theorem lvQ_len (lv : List St.Lv) : (lvQ lv).length = lv.length := by simp [lvQ]
theorem lvQ_fst (lv : List St.Lv) (k : Nat) : ((lvQ lv)[k]?.getD (0, 0)).1 = (lv[k]?.getD Lv0).2.1 := by
  unfold lvQ
  rw [List.getElem?_map]
  cases lv[k]? <;> rfl
theorem lvQ_snd (lv : List St.Lv) (k : Nat) : ((lvQ lv)[k]?.getD (0, 0)).2 = (lv[k]?.getD Lv0).1 := by
  unfold lvQ
  rw [List.getElem?_map]
  cases lv[k]? <;> rfl
def OkQ (l : List (Int × Int)) : Prop := ∀ s ∈ l, 0 < s.1 ∧ s.1 ≤ 16000000
theorem VL.okQ {up : Bool} {n : Nat} {lv : List St.Lv} (h : VL up n lv) : OkQ (lvQ lv) := fun s hs => by
  obtain ⟨x, hx, rfl⟩ := List.mem_map.1 hs
  exact h.qty x hx
theorem restL_bd {l : List (Int × Int)} {q : Rat} {Nn Nd : Nat} (h0 : 0 ≤ q) (hok : OkQ l) (hn : q.num.natAbs < Nn) (hd : q.den < Nd) : ∀ k, k ≤ l.length → 0 ≤ restAt l q k ∧ (restAt l q k).num.natAbs < Nn ∧ (restAt l q k).den < Nd
  | 0, _ => ⟨h0, hn, hd⟩
  | k + 1, hk => by
    obtain ⟨i1, i2, i3⟩ := restL_bd h0 hok hn hd k (by omega)
    have hb := hok _ (getD_mem (d := (0, 0)) (show k < l.length by omega))
    exact rest_bd i1 (by omega) i2 i3
theorem partL_bd {l : List (Int × Int)} {q : Rat} {Nn Nd : Nat} (h0 : 0 ≤ q) (hok : OkQ l) (hn : q.num.natAbs < Nn) (hd : q.den < Nd) (hN : 16000000 < Nn) (hD : 1 < Nd) {k : Nat} (hk : k < l.length) : (partAt l q k).num.natAbs < Nn ∧ (partAt l q k).den < Nd := by
  obtain ⟨i1, i2, i3⟩ := restL_bd h0 hok hn hd k (by omega)
  have hb := hok _ (getD_mem (d := (0, 0)) hk)
  unfold partAt lessQ
  split
  · refine ⟨?_, hD⟩
    show (l[k]?.getD (0, 0)).1.natAbs < Nn
    omega
  · exact ⟨i2, i3⟩

set_option maxRecDepth 100000 in
set_option maxHeartbeats 8000000 in
theorem fill_ok (M Nn Nd : Nat) (HO : WOK M) (hM1 : 2 * (Nn * Nd) ≤ M) (hM2 : Nd * Nd ≤ M) (hnm : Nn ≤ M) (hdm : Nd ≤ M) (hN : 768000000 < Nn) (hN2 : Nn ≤ 4611686018427387904) (hD : 1 < Nd)
    (up : Bool) (A : Option Addr) (n nn c : Nat) (lv : List St.Lv) (an an' : Bool) (aA aA' : Option Addr) (ak ac ak' ac' : Nat) (q : Rat) (w : World) (h : LvAt w A n nn lv) (hq : QAt Nn Nd w an aA ak ac an' aA' ak' ac' q)
    (hv : VL up nn lv) (h0 : 0 ≤ q) (h1 : q ≤ (totI lv : Int)) :
    Calls Tryz.prog 97 #[.slice A n c, .agg #[.bool an, .slice aA ak ac, .bool an', .slice aA' ak' ac']] w
      (fun e w' => ∃ g ps, e = .returned (.tuple #[.slice (some ⟨g, 0, none⟩) n n, .int .i64 0]) ∧ QRow w' g n ps ∧ (∀ j, j < n → ps[j]?.getD 0 = partAt (lvQ lv) q j) ∧ w.heap.size ≤ g ∧ Below w.heap.size w w') := by
  have hln := h.1
  have hn : n ≤ 48 := by have := hv.len; omega
  have hbd := tot_bd lv hv.qty
  have hok := hv.okQ
  have hN3 : 16000000 < Nn := by omega
  have CC := fun W (hW : Below w.heap.size w W) => check_ok up A n nn c lv W (h.below hW) hv
  have SM := fun W (hW : Below w.heap.size w W) => total_ok up A n nn c lv W (h.below hW) hv
  have SG := fun W (hW : Below w.heap.size w W) => qsign_any an an' aA aA' ak ac ak' ac' q W (hq.below hW)
  have hsg : decide (sgnQ q < 0) = false := by
    have := Rat.num_nonneg.2 h0
    unfold sgnQ cmpI
    split
    · omega
    · split <;> simp
  have hcm : decide (0 < cmpQ q ((totI lv : Int) : Rat)) = false := by
    unfold cmpQ
    split
    · simp
    · rw [if_neg (by grind)]; simp
  have FI := fun W => qfromInt64_any (totI lv) W (by omega) (by omega)
  have hCM : ∀ W (hW : Below w.heap.size w W) (B B' : Option Addr) (k d k' d' : Nat), k ≤ d → k' ≤ d' → Wat W B k (digs ((totI lv : Int) : Rat).num.natAbs) → Wat W B' k' (denW ((totI lv : Int) : Rat).den) →
      Calls Tryz.prog 55 #[.agg #[.bool an, .slice aA ak ac, .bool an', .slice aA' ak' ac'], .agg #[.bool (decide (((totI lv : Int) : Rat).num < 0)), .slice B k d, .bool false, .slice B' k' d']] W fun e w' => e = .returned (.int .i64 (cmpQ q ((totI lv : Int) : Rat))) ∧ Below W.heap.size W w' := by
    intro W hW B B' k d k' d' hk hk' h5 h6
    refine qcmp_any (Nn := Nn) (Nd := Nd) an an' _ false aA aA' B B' ak ac ak' ac' k d k' d' q _ W (hq.below hW) (qat_canon hk hk' h5 h6 ?_ ?_ ?_ hD)
    · rw [← h5.1, show ((totI lv : Int) : Rat).num = totI lv from rfl]
      exact Nat.le_trans (len_le_two (by omega)) (by omega)
    · rw [← h6.1, show ((totI lv : Int) : Rat).den = 1 from rfl]; simp [denW]
    · show (totI lv).natAbs < Nn; omega
  have HLN : Hid ((lvQ lv).length = n) := Lib.hid (by rw [lvQ_len]; exact hln)
  generalize sgnQ q = sq at *
  generalize cmpQ q ((totI lv : Int) : Rat) = cq at *
  generalize hqr : ((totI lv : Int) : Rat) = qs at *
  have hs1 : 0 ≤ totI lv := by omega
  have hs2 : totI lv ≤ 768000000 := by omega
  generalize totI lv = sl at *
  have CC := Lib.hid CC
  have SM := Lib.hid SM
  have SG := Lib.hid SG
  have FI := Lib.hid FI
  have HCM := Lib.hid hCM
  have HQ := Lib.hid hq
  have HST := Lib.hid h
  generalize hlq : lvQ lv = l at *
  have HLQ := Lib.hid hlq
  clear hlq hln
  have hmk := fun w => run_make_Q n (by omega) w
  clear hCM hbd hqr h h1 hv hq
  go_enter Tryz.func97, Tryz.ntmps97
  go_wp2_with fail
  have hB0 := Blk.new w 42 #[.bool an, .slice aA ak ac, .bool an', .slice aA' ak' ac']
  have hBW : Below w.heap.size w (w.alloc (.cells #[.bool an, .slice aA ak ac, .bool an', .slice aA' ak' ac'] 42)) := (Below.refl _ _).alloc (Nat.le_refl _) _
  have hsz : (w.alloc (.cells #[.bool an, .slice aA ak ac, .bool an', .slice aA' ak' ac'] 42)).heap.size = w.heap.size + 1 := by simp
  generalize w.alloc (.cells #[.bool an, .slice aA ak ac, .bool an', .slice aA' ak' ac'] 42) = W at *
  have HSZ := Lib.hid hsz
  clear hsz
  refine (CC.out W hBW).mono ?_
  rintro e w1 ⟨rfl, hb1⟩
  have hB0 := hB0.below hb1 hB0.lt
  have hBW : Below w.heap.size w w1 := hBW.trans (hb1.mono hBW.size)
  clear hb1 HSZ CC
  have hBK : ∀ w', Kp w1 w' → Below w.heap.size w w' := fun w' hk => hBW.trans (Below.mono hk hBW.size)
  have HBK := Lib.hid hBK
  clear hBK
  have s5 := Kp.refl w1
  go_wp2_with fail
  have hS : ∀ w', Kp w1 w' → (w'.cell? ⟨w.heap.size, 0, none⟩ = some (.bool an) ∧ w'.cell? ⟨w.heap.size, 1, none⟩ = some (.slice aA ak ac) ∧ w'.cell? ⟨w.heap.size, 2, none⟩ = some (.bool an') ∧ w'.cell? ⟨w.heap.size, 3, none⟩ = some (.slice aA' ak' ac')) ∧ Kp w1 w' := fun w' hk => ⟨⟨(hk.blk hB0).cell 0, (hk.blk hB0).cell 1, (hk.blk hB0).cell 2, (hk.blk hB0).cell 3⟩, hk⟩
  have HS := Lib.hid hS
  clear hS
  go_region_held3 (fun w' => (w'.cell? ⟨w.heap.size, 0, none⟩ = some (.bool an) ∧ w'.cell? ⟨w.heap.size, 1, none⟩ = some (.slice aA ak ac) ∧ w'.cell? ⟨w.heap.size, 2, none⟩ = some (.bool an') ∧ w'.cell? ⟨w.heap.size, 3, none⟩ = some (.slice aA' ak' ac')) ∧ Kp w1 w')
    (first | (with_reducible refine HS.out _ ?_; with_reducible assumption) | (with_reducible refine HS.out _ (Kp.drew ?_); with_reducible assumption) | (with_reducible refine' HS.out _ (Kp.drew (And.right ?_)); rotate_left; with_reducible assumption))
    (first
      | (go_at_call 52; have hk := And.right ‹_ ∧ Kp w1 _›; refine (SG.out _ (HBK.out _ hk)).mono ?_; rintro e v1 ⟨rfl, hb1⟩; have hr1 := hk.trans hb1; clear hb1)
      | (go_at_call 37; have hk := And.right ‹_ ∧ Kp w1 _›; refine (SM.out _ (HBK.out _ hk)).mono ?_; rintro e v2 ⟨rfl, hb2⟩; have hr2 := hk.trans hb2; clear hb2)
      | (go_at_call 50; have hk := And.right ‹_ ∧ Kp w1 _›; refine (FI.out _).mono ?_; rintro e v3 ⟨A3, k3, c3, A4, k4, c4, rfl, hk3, hk4, hW3, hW4, hF3, hF4, hb3⟩; have hr3 := hk.trans hb3; clear hb3)
      | (go_at_call 55; have hk := And.right ‹_ ∧ Kp w1 _›; refine (HCM.out _ (HBK.out _ hk) A3 A4 k3 c3 k4 c4 hk3 hk4 hW3 hW4).mono ?_; rintro e v4 ⟨rfl, hb4⟩; have hr4 := hk.trans hb4; clear hb4))
  rename_i hHeld
  obtain ⟨⟨c0, c1, c2, c3⟩, -⟩ := hHeld
  have hB4 : Below w.heap.size w v4 := HBK.out _ hr4
  have hB5 : Below w.heap.size w ((v4.alloc (.cells #[.bool an, .slice aA ak ac, .bool an', .slice aA' ak' ac'] 42)).alloc (.cells (madeCells qzero (n * 4)) 42)) := (hB4.alloc hB4.size _).alloc (Nat.le_trans hB4.size (by simp)) _
  have hQR := QRow.start (v4.alloc (.cells #[.bool an, .slice aA ak ac, .bool an', .slice aA' ak' ac'] 42)) n
  rw [World.size_alloc] at hQR
  have hst : AllR w Nn Nd v4.heap.size n l q 0 (List.replicate n 0) an aA ak ac an' aA' ak' ac' ((v4.alloc (.cells #[.bool an, .slice aA ak ac, .bool an', .slice aA' ak' ac'] 42)).alloc (.cells (madeCells qzero (n * 4)) 42)) :=
    ⟨hB5, (Blk.new v4 _ _).alloc _, HQ.out.below hB5, hQR, fun j hj => absurd hj (by omega)⟩
  have hgs : w.heap.size ≤ v4.heap.size := hB4.size
  clear hB4 hB5 hQR hW3 hW4 hF3 hF4 hk3 hk4 HCM FI SG SM HBK s5 hr1 hr2 hr3 hr4 HS
  go_wp2_with fail
  generalize (v4.alloc (.cells #[.bool an, .slice aA ak ac, .bool an', .slice aA' ak' ac'] 42)).alloc (.cells (madeCells qzero (n * 4)) 42) = W0 at *
  generalize List.replicate n (0 : Rat) = ps0 at *
  generalize v4.heap.size = g at *
  clear c0 c1 c2 c3 hmk
  go_loopw [33] (fun t wr => ∃ (k : Nat) (ps : List Rat) (bn : Bool) (bA : Option Addr) (bk bc : Nat) (bn' : Bool) (bA' : Option Addr) (bk' bc' : Nat), k ≤ n ∧ t = .int .i64 k ∧ Hid (AllR w Nn Nd g n l q k ps bn bA bk bc bn' bA' bk' bc' wr)) (fun t _ => n - (intOf t).toNat)
  case atStart => exact ⟨0, ps0, an, aA, ak, ac, an', aA', ak', ac', Nat.zero_le _, rfl, hst⟩
  case round =>
    clear hst
    obtain ⟨k, ps, bn, bA, bk, bc, bn', bA', bk', bc', hk, rfl, hR⟩ := hrel
    by_cases hlt : k < n
    · obtain ⟨hB, hBx, hQx, hRow, hPs⟩ := hR.out
      obtain ⟨b, o, rfl, hb, hcell⟩ := HST.out.2 (by omega)
      obtain ⟨A2, c2', ⟨ck', ck, ck2⟩, -⟩ := hcell k hlt
      rw [← lvQ_snd, HLQ.out] at ck'
      rw [← lvQ_fst, HLQ.out] at ck
      have hck' := (hB.cell (p := ⟨b, o + k * 3, none⟩) hb).trans ck'
      have hck := (hB.cell (p := ⟨b, o + k * 3 + 1, none⟩) hb).trans ck
      have hck2 := (hB.cell (p := ⟨b, o + k * 3 + 2, none⟩) hb).trans ck2
      have hbad := hok _ (getD_mem (d := (0, 0)) (show k < l.length by rw [HLN.out]; exact hlt))
      have hrb := restL_bd (l := l) (q := q) h0 hok (HQ.out.bd).1 (HQ.out.bd).2 (k + 1) (by rw [HLN.out]; omega)
      have hr1 : restAt l q (k + 1) = restAt l q k - lessQ (restAt l q k) (l[k]?.getD (0, 0)).1 := rfl
      have hp1 : partAt l q k = lessQ (restAt l q k) (l[k]?.getD (0, 0)).1 := rfl
      have hz1 : g + 1 < wr.heap.size := by obtain ⟨_, cs, hbk, _⟩ := hRow; exact hbk.lt
      have FI := fun W => qfromInt64_any (l[k]?.getD (0, 0)).1 W (by omega) (by omega)
      have HMIN := fun (W : World) (B B' : Option Addr) (j d j' d' : Nat) (hW : QAt Nn Nd W bn bA bk bc bn' bA' bk' bc' (restAt l q k)) (h1 : j ≤ d) (h2 : j' ≤ d') (h3 : Wat W B j (digs (((l[k]?.getD (0, 0)).1 : Int) : Rat).num.natAbs)) (h4 : Wat W B' j' (denW (((l[k]?.getD (0, 0)).1 : Int) : Rat).den)) => qless_any M Nn Nd HO hnm hdm hW h1 h2 h3 h4 (by omega) hD hN2
      rw [← hp1] at hr1 HMIN
      have hpb := partL_bd (l := l) (q := q) h0 hok (HQ.out.bd).1 (HQ.out.bd).2 hN3 hD (k := k) (by rw [HLN.out]; exact hlt)
      have HSUB := fun (W : World) (B B' : Option Addr) (j d j' d' : Nat) (hW : QAt Nn Nd W bn bA bk bc bn' bA' bk' bc' (restAt l q k)) (h1 : j ≤ d) (h2 : j' ≤ d') (h3 : Wat W B j (digs (partAt l q k).num.natAbs)) (h4 : Wat W B' j' (denW (partAt l q k).den)) => qsub_any M Nn Nd HO hM1 hM2 bn bn' _ false bA bA' B B' bk bc bk' bc' j d j' d' (restAt l q k) (partAt l q k) W hW (qat_len HO hnm hdm h1 h2 h3 h4 hpb.1 hpb.2)
      rw [← hr1] at HSUB
      have FI := Lib.hid FI
      have HMIN := Lib.hid HMIN
      have HSUB := Lib.hid HSUB
      have HRB := Lib.hid hrb
      generalize hqv : (((l[k]?.getD (0, 0)).1 : Int) : Rat) = qk at *
      generalize (l[k]?.getD (0, 0)).1 = sq1 at *
      generalize (l[k]?.getD (0, 0)).2 = sp1 at *
      have hPs := Lib.hid hPs
      have hcell := Lib.hid hcell
      clear hbad hrb hr1 hp1 hqv hpb ck ck' ck2
      go_wp2_with fail
      have hBx := hBx.alloc (.cells #[.int .i64 sp1, .int .i64 sq1, .slice A2 nn c2'] 64)
      have hb9 : Below wr.heap.size wr (wr.alloc (.cells #[.int .i64 sp1, .int .i64 sq1, .slice A2 nn c2'] 64)) := (Below.refl _ _).alloc (Nat.le_refl _) _
      have hRow := hRow.below hb9
      have hQx := hQx.below hb9
      have hSt := Blk.new wr 64 #[.int .i64 sp1, .int .i64 sq1, .slice A2 nn c2']
      have hBw := hB.alloc hB.size (.cells #[.int .i64 sp1, .int .i64 sq1, .slice A2 nn c2'] 64)
      generalize wr.alloc (.cells #[.int .i64 sp1, .int .i64 sq1, .slice A2 nn c2'] 64) = W2 at *
      clear hb9 hck hck' hck2 hB
      have hRow' := Lib.hid hRow
      have hQx' := Lib.hid hQx
      have s5 := Kp.refl W2
      have s6 : RGB (g + 1) 42 W2 W2 := by obtain ⟨_, cs, hbk, _⟩ := hRow; exact RGB.start hbk
      have hki : (0 : Int) ≤ (k : Int) ∧ (k : Int) < (n : Int) := by omega
      obtain ⟨hki1, hki2⟩ := hki
      clear hRow hQx
      have hS : ∀ w', RGB (g + 1) 42 W2 w' → (w'.cell? ⟨g, 0, none⟩ = some (.bool bn) ∧ w'.cell? ⟨g, 1, none⟩ = some (.slice bA bk bc) ∧ w'.cell? ⟨g, 2, none⟩ = some (.bool bn') ∧ w'.cell? ⟨g, 3, none⟩ = some (.slice bA' bk' bc') ∧ w'.cell? ⟨wr.heap.size, 1, none⟩ = some (.int .i64 sq1)) ∧ RGB (g + 1) 42 W2 w' := fun w' hk => ⟨⟨(hk.blk hBx (by omega)).cell 0, (hk.blk hBx (by omega)).cell 1, (hk.blk hBx (by omega)).cell 2, (hk.blk hBx (by omega)).cell 3, (hk.blk hSt (by omega)).cell 1⟩, hk⟩
      have HS := Lib.hid hS
      clear hS
      go_region_held3 (fun w' => (w'.cell? ⟨g, 0, none⟩ = some (.bool bn) ∧ w'.cell? ⟨g, 1, none⟩ = some (.slice bA bk bc) ∧ w'.cell? ⟨g, 2, none⟩ = some (.bool bn') ∧ w'.cell? ⟨g, 3, none⟩ = some (.slice bA' bk' bc') ∧ w'.cell? ⟨wr.heap.size, 1, none⟩ = some (.int .i64 sq1)) ∧ RGB (g + 1) 42 W2 w')
        (first | (with_reducible refine HS.out _ ?_; with_reducible assumption) | (with_reducible refine HS.out _ (RGB.drew ?_); with_reducible assumption) | (with_reducible refine' HS.out _ (RGB.drew (And.right ?_)); rotate_left; with_reducible assumption) | (with_reducible refine' HS.out _ (RGB.set (And.right ?_) _ _ _ _ _ _ _ _); rotate_left; with_reducible assumption))
        (first
          | (go_at_call 50; have hk := And.right ‹_ ∧ RGB (g + 1) 42 W2 _›; refine (FI.out _).mono ?_; rintro e v5 ⟨A3, k3, c3, A4, k4, c4, rfl, hk3, hk4, hW3, hW4, hF3, hF4, hb3⟩; have hr3 := hk.call hb3; have hp3 : Kp W2 v5 := Kp.trans (Kp.drew s5) hb3; clear hb3)
          | (go_at_call 98; have hk := And.right ‹_ ∧ RGB (g + 1) 42 W2 _›; refine (HMIN.out _ A3 A4 k3 c3 k4 c4 (hQx'.out.below hp3) hk3 hk4 hW3 hW4).mono ?_; rintro e v6 ⟨A5, k5, c5, A6, k6, c6, rfl, hk5, hk6, hW5, hW6, hF5, hF6, hb4⟩; have hr4 := hk.call hb4; have hp4 : Kp W2 v6 := Kp.trans hp3 hb4; obtain ⟨_, _, _, _, _, _, i0, i1, i2, i3, i4, i5, i6, i7, -⟩ := (hRow'.out.below hp4).cells hlt; clear hb4))
      rename_i hHeld
      clear hHeld
      have e7 : (((v6.setCell ⟨g + 1, k * 4, none⟩ (.bool (decide ((partAt l q k).num < 0)))).setCell ⟨g + 1, k * 4 + 1, none⟩ (.slice A5 k5 c5)).setCell ⟨g + 1, k * 4 + 2, none⟩ (.bool false)).setCell ⟨g + 1, k * 4 + 3, none⟩ (.slice A6 k6 c6) = qst v6 (g + 1) (k * 4) (decide ((partAt l q k).num < 0)) false A5 A6 k5 c5 k6 c6 := rfl
      rw [e7]
      have hRow6 := hRow'.out.below hp4
      have hRow7 := hRow6.put hlt hk5 hk6 hW5 hW6
      obtain ⟨hlen6, cs6, hbk6, hni6, -⟩ := hRow6
      have hBx7 : Blk (qst v6 (g + 1) (k * 4) (decide ((partAt l q k).num < 0)) false A5 A6 k5 c5 k6 c6) g _ _ := (Kp.blk hp4 hBx).far4 (by omega)
      have hQx7 := (hQx'.out.below hp4).put4 (o := k * 4) (a := decide ((partAt l q k).num < 0)) (b := false) (A := A5) (A' := A6) (k := k5) (c := c5) (k' := k6) (c' := c6) hbk6 hni6
      have hB6 : Below w.heap.size w v6 := hBw.trans (Below.mono hp4 hBw.size)
      have hB7 : Below w.heap.size w (qst v6 (g + 1) (k * 4) (decide ((partAt l q k).num < 0)) false A5 A6 k5 c5 k6 c6) := below_qst hB6 (by omega)
      generalize qst v6 (g + 1) (k * 4) (decide ((partAt l q k).num < 0)) false A5 A6 k5 c5 k6 c6 = W7 at *
      clear e7 hr3 hr4 hp3 hp4 i0 i1 i2 i3 i4 i5 i6 i7 hW3 hW4 hF3 hF4 hk3 hk4 hW5 hW6 hF5 hF6 hk5 hk6 hbk6 hni6 s5 s6 hBw HS hSt hBx hRow' hQx' HMIN FI hB6
      have epk : (ps.set k (partAt l q k))[k]?.getD 0 = partAt l q k := by simp [hlen6, hlt]
      have hPs' : ∀ j, j < k + 1 → (ps.set k (partAt l q k))[j]?.getD 0 = partAt l q j := by
        intro j hj
        by_cases hjk : j = k
        · rw [hjk]; exact epk
        · rw [List.getElem?_set_ne (Ne.symm hjk)]; exact hPs.out j (by omega)
      have hPs' := Lib.hid hPs'
      obtain ⟨A8, k8, c8, A9, k9, c9, j0, j1, j2, j3, -, -, -, -, hk8, hk9, hW8, hW9⟩ := hRow7.cells hlt
      rw [epk] at j0 hW8 hW9
      generalize ps.set k (partAt l q k) = ps' at *
      have hrow := Lib.hid hRow7
      have hqx := Lib.hid hQx7
      have s5 := Kp.refl W7
      have s6 := RG4.start hBx7
      obtain ⟨x0, x1, x2, x3, y0, y1, y2, y3⟩ := hBx7.four
      clear hRow7 hQx7
      go_wp2_with fail
      go_region_with (first | (go_at_call 72; refine (HSUB.out _ A8 A9 k8 c8 k9 c9 (hqx.out.below (Kp.drew s5)) hk8 hk9 hW8 hW9).mono ?_; rintro e v8 ⟨A5, k5, c5, A6, k6, c6, rfl, hk5, hk6, hW5, hW6, hF5, hF6, hb4⟩; have hp4 : Kp W7 v8 := Kp.trans (Kp.drew s5) hb4; obtain ⟨i0, i1, i2, i3, i4, i5, i6, i7⟩ := (Kp.blk hp4 hBx7).four; clear hb4))
      all_goals
        have e8 : (((v8.setCell ⟨g, 0, none⟩ (.bool (decide ((restAt l q (k + 1)).num < 0)))).setCell ⟨g, 1, none⟩ (.slice A5 k5 c5)).setCell ⟨g, 2, none⟩ (.bool false)).setCell ⟨g, 3, none⟩ (.slice A6 k6 c6) = qst v8 g 0 (decide ((restAt l q (k + 1)).num < 0)) false A5 A6 k5 c5 k6 c6 := rfl
        rw [e8]
        have hbx8 := Kp.blk hp4 hBx7
        have hfin : AllR w Nn Nd g n l q (k + 1) ps' (decide ((restAt l q (k + 1)).num < 0)) A5 k5 c5 false A6 k6 c6 (qst v8 g 0 (decide ((restAt l q (k + 1)).num < 0)) false A5 A6 k5 c5 k6 c6) := by
          refine ⟨below_qst (hB7.trans (Below.mono hp4 hB7.size)) hgs, hbx8.put4, ?_, ?_, hPs'.out⟩
          · exact qat_len HO hnm hdm hk5 hk6 (hW5.put4 hbx8 NoInt.four) (hW6.put4 hbx8 NoInt.four) HRB.out.2.1 HRB.out.2.2
          · exact (hrow.out.below hp4).far4 (by omega) hbx8 NoInt.four
        generalize qst v8 g 0 (decide ((restAt l q (k + 1)).num < 0)) false A5 A6 k5 c5 k6 c6 = W8 at *
        have HF := Lib.hid hfin
        clear e8 hfin hbx8 i0 i1 i2 i3 i4 i5 i6 i7 x0 x1 x2 x3 y0 y1 y2 y3 hp4 hW5 hW6 hF5 hF6 hk5 hk6 hW8 hW9 hB7 j0 j1 j2 j3
        go_wp2
        go_roundw
        case rel => exact ⟨k + 1, ps', _, A5, k5, c5, false, A6, k6, c6, by omega, by go_num, HF.out⟩
        case measure => simp [intOf]; omega
    · obtain rfl : k = n := by omega
      obtain ⟨hB, hBx, hQx, hRow, hPs⟩ := hR.out
      clear hR
      go_wp2
      go_ret2
      exact ⟨g + 1, ps, rfl, hRow, hPs, by omega, hB⟩

end Go.Proofs.YtnjpojpfiijlfaaGreat

namespace Go.Proofs.YtnjpojpfiijlfaaGreat
set_option linter.unusedVariables false
set_option linter.unusedSimpArgs false
open Go.RowKit
open Wd
attribute [local go_sem ↓] Go.wp_at_zero Go.wp_at_succ

theorem VL.prQ {up : Bool} {n : Nat} {lv : List St.Lv} (h : VL up n lv) : ∀ s ∈ lvQ lv, -1000000 ≤ s.2 ∧ s.2 ≤ 1000000 := fun s hs => by
  obtain ⟨x, hx, rfl⟩ := List.mem_map.1 hs
  exact h.price x hx

set_option maxRecDepth 100000 in
set_option maxHeartbeats 16000000 in
theorem kcost_ok (M Nn Nd Cn Cd : Nat) (HO : WOK M) (hNL : 768000000 < Nn)
    (up : Bool) (A : Option Addr) (n nn c : Nat) (lv : List St.Lv) (an an' : Bool) (aA aA' : Option Addr) (ak ac ak' ac' : Nat) (q : Rat) (w : World) (h : LvAt w A n nn lv) (hq : QAt Nn Nd w an aA ak ac an' aA' ak' ac' q)
    (hv : VL up nn lv) (h0 : 0 ≤ q) (h1 : q ≤ (totI lv : Int)) (HC : CostOK M Nn Nd Cn Cd (lvQ lv) q) :
    Calls Tryz.prog 40 #[.slice A n c, .agg #[.bool an, .slice aA ak ac, .bool an', .slice aA' ak' ac']] w (CstPost w (costAt (lvQ lv) q n)) := by
  have hln := h.1
  have hn : n ≤ 48 := by have := hv.len; omega
  have hok := hv.okQ
  have hpr := hv.prQ
  have T := fun W (hW : Below w.heap.size w W) => fill_ok M Nn Nd HO HC.nd HC.dd HC.nm HC.dm hNL HC.hn2 HC.hd up A n nn c lv an an' aA aA' ak ac ak' ac' q W (h.below hW) (hq.below hW) hv h0 h1
  have HT := Lib.hid T
  have HB := Lib.hid (hq.bd)
  have HST := Lib.hid h
  have HOK := Lib.hid hok
  have HPR := Lib.hid hpr
  have HLN : Hid ((lvQ lv).length = n) := Lib.hid (by rw [lvQ_len]; exact hln)
  generalize hlq : lvQ lv = l at *
  have HLQ := Lib.hid hlq
  clear hlq h hq hv h1 hok hpr hln T
  go_enter Tryz.func40, Tryz.ntmps40
  go_wp2_with fail
  have hB0 := (Blk.new w 42 #[.bool an, .slice aA ak ac, .bool an', .slice aA' ak' ac']).alloc (.cells #[.bool false, .slice none 0 0, .bool false, .slice none 0 0] 42)
  have hB1 := Blk.new1 w (.cells #[.bool an, .slice aA ak ac, .bool an', .slice aA' ak' ac'] 42) 42 #[.bool false, .slice none 0 0, .bool false, .slice none 0 0]
  have hBW : Below w.heap.size w ((w.alloc (.cells #[.bool an, .slice aA ak ac, .bool an', .slice aA' ak' ac'] 42)).alloc (.cells #[.bool false, .slice none 0 0, .bool false, .slice none 0 0] 42)) := ((Below.refl _ _).alloc (Nat.le_refl _) _).alloc (by simp only [World.size_alloc]; omega) _
  have hsz : ((w.alloc (.cells #[.bool an, .slice aA ak ac, .bool an', .slice aA' ak' ac'] 42)).alloc (.cells #[.bool false, .slice none 0 0, .bool false, .slice none 0 0] 42)).heap.size = w.heap.size + 1 + 1 := by simp
  generalize (w.alloc (.cells #[.bool an, .slice aA ak ac, .bool an', .slice aA' ak' ac'] 42)).alloc (.cells #[.bool false, .slice none 0 0, .bool false, .slice none 0 0] 42) = W at *
  have HSZ := Lib.hid hsz
  clear hsz
  refine (HT.out W hBW).mono ?_
  rintro e w1 ⟨gr, ps, rfl, hRow, hPs, hgr, hb1⟩
  have hB0 := hB0.below hb1 hB0.lt
  have hB1 := hB1.below hb1 hB1.lt
  have hgs : w.heap.size + 1 + 1 ≤ W.heap.size := by have := HSZ.out; omega
  have hBw := hBW.trans (hb1.mono hBW.size)
  have hz1 := hb1.size
  have hrow := Lib.hid (hRow.below ((Below.refl _ w1).alloc (Nat.le_refl _) (.cells #[.bool false, .slice none 0 0, .bool false, .slice none 0 0] 42)))
  have HPS := Lib.hid hPs
  have hB1 := hB1.alloc (.cells #[.bool false, .slice none 0 0, .bool false, .slice none 0 0] 42)
  have hg := Blk.new w1 42 #[.bool false, .slice none 0 0, .bool false, .slice none 0 0]
  have hgl : gr < w1.heap.size := by obtain ⟨_, cs, hbk, _⟩ := hRow; exact hbk.lt
  have hBw2 := hBw.alloc hBw.size (.cells #[.bool false, .slice none 0 0, .bool false, .slice none 0 0] 42)
  have hst : CstR w w1.heap.size gr n l q ps 0 none 0 0 none 0 0 (w1.alloc (.cells #[.bool false, .slice none 0 0, .bool false, .slice none 0 0] 42)) := ⟨hBw2, hg, CQ.zero, hrow.out⟩
  clear hPs HT hBW hb1 HSZ hBw hRow hB0 hBw2 hg hrow
  go_wp2_with fail
  generalize w1.alloc (.cells #[.bool false, .slice none 0 0, .bool false, .slice none 0 0] 42) = W0 at *
  generalize w1.heap.size = g at *
  have HST0 := Lib.hid hst
  have HB1 := Lib.hid hB1
  clear hst hB1
  go_loopw [23] (fun t wr => ∃ (k : Nat) (A : Option Addr) (j c : Nat) (A' : Option Addr) (j' c' : Nat), k ≤ n ∧ t = .int .i64 k ∧ Hid (CstR w g gr n l q ps k A j c A' j' c' wr) ∧ Hid (Blk wr (w.heap.size + 1) 42 #[.bool false, .slice none 0 0, .bool false, .slice none 0 0])) (fun t _ => n - (intOf t).toNat)
  case atStart => exact ⟨0, none, 0, 0, none, 0, 0, Nat.zero_le _, rfl, HST0.out, HB1.out⟩
  case round =>
    clear HST0 HB1
    obtain ⟨k, B, bk, bc, B', bk', bc', hk, rfl, hR, hRB⟩ := hrel
    by_cases hlt : k < n
    · obtain ⟨hB, hBx, hCx, hRow⟩ := hR.out
      obtain ⟨b, o, rfl, hb, hcell⟩ := HST.out.2 (by omega)
      obtain ⟨A2, c2', ⟨ck', ck, ck2⟩, -⟩ := hcell k hlt
      rw [← lvQ_snd, HLQ.out] at ck'
      rw [← lvQ_fst, HLQ.out] at ck
      have hck' := (hB.cell (p := ⟨b, o + k * 3, none⟩) hb).trans ck'
      have hck := (hB.cell (p := ⟨b, o + k * 3 + 1, none⟩) hb).trans ck
      have hck2 := (hB.cell (p := ⟨b, o + k * 3 + 2, none⟩) hb).trans ck2
      have hlen : k < l.length := by have := HLN.out; omega
      have hbad := HPR.out _ (getD_mem (d := (0, 0)) hlen)
      have hr1 : costAt l q (k + 1) = costAt l q k + partAt l q k * (((l[k]?.getD (0, 0)).2 : Int) : Rat) := rfl
      have hpb := partL_bd (l := l) (q := q) h0 HOK.out HB.out.1 HB.out.2 (by omega) HC.hd hlen
      have hs1 := HC.sum k (by omega)
      have hs2 := HC.sum (k + 1) hlen
      have hs3 := HC.prod k hlen
      have hps := HPS.out k hlt
      have FI := fun W => qfromInt64_any (l[k]?.getD (0, 0)).2 W (by omega) (by omega)
      have hpn : (((l[k]?.getD (0, 0)).2 : Int) : Rat).num.natAbs < Nn := by have := HC.hn; rw [Rat.num_intCast]; omega
      have hpd : (((l[k]?.getD (0, 0)).2 : Int) : Rat).den < Nd := by rw [Rat.den_intCast]; exact HC.hd
      have HMUL := fun (W : World) (B1 B1' B2 B2' : Option Addr) (j1 d1 j1' d1' j2 d2 j2' d2' : Nat) (h1 : j1 ≤ d1) (h2 : j1' ≤ d1') (h3 : Wat W B1 j1 (digs (partAt l q k).num.natAbs)) (h4 : Wat W B1' j1' (denW (partAt l q k).den)) (h5 : j2 ≤ d2) (h6 : j2' ≤ d2') (h7 : Wat W B2 j2 (digs (((l[k]?.getD (0, 0)).2 : Int) : Rat).num.natAbs)) (h8 : Wat W B2' j2' (denW (((l[k]?.getD (0, 0)).2 : Int) : Rat).den)) =>
        qmulq_any M Nn Nd HO HC.nn HC.dd _ false _ false B1 B1' B2 B2' j1 d1 j1' d1' j2 d2 j2' d2' (partAt l q k) (((l[k]?.getD (0, 0)).2 : Int) : Rat) W (qat_len HO HC.nm HC.dm h1 h2 h3 h4 hpb.1 hpb.2) (qat_len HO HC.nm HC.dm h5 h6 h7 h8 hpn hpd)
      have HADD := fun (W : World) (B2 B2' : Option Addr) (j2 d2 j2' d2' : Nat) (hx : CQ w.heap.size W (costAt l q k) B bk bc B' bk' bc') (h5 : j2 ≤ d2) (h6 : j2' ≤ d2') (h7 : Wat W B2 j2 (digs (partAt l q k * (((l[k]?.getD (0, 0)).2 : Int) : Rat)).num.natAbs)) (h8 : Wat W B2' j2' (denW (partAt l q k * (((l[k]?.getD (0, 0)).2 : Int) : Rat)).den)) =>
        qadd_any M Cn Cd HO HC.cnd HC.cdd _ false _ false B B' B2 B2' bk bc bk' bc' j2 d2 j2' d2' (costAt l q k) (partAt l q k * (((l[k]?.getD (0, 0)).2 : Int) : Rat)) W (hx.at HO HC.cn HC.cd hs1.1 hs1.2) (qat_len HO HC.cn HC.cd h5 h6 h7 h8 hs3.1 hs3.2)
      rw [← hr1] at HADD
      obtain ⟨A8, k8, c8, A9, k9, c9, j0, j1, j2, j3, -, -, -, -, hk8, hk9, hW8, hW9⟩ := hRow.cells hlt
      rw [hps] at j0 hW8 hW9
      have HFI := Lib.hid FI
      have HMULH := Lib.hid HMUL
      have HADDH := Lib.hid HADD
      generalize hqv : (((l[k]?.getD (0, 0)).2 : Int) : Rat) = qk at *
      generalize partAt l q k * qk = qm at *
      generalize partAt l q k = qp at *
      generalize (l[k]?.getD (0, 0)).1 = sq1 at *
      generalize (l[k]?.getD (0, 0)).2 = sp1 at *
      clear FI HMUL HADD hqv hps hr1 hbad hpb hs1 hs3 hs2 hpn hpd ck ck' ck2 hcell
      have hki : (0 : Int) ≤ (k : Int) ∧ (k : Int) < (n : Int) := by omega
      obtain ⟨hki1, hki2⟩ := hki
      have hbRB := hRB.out
      clear hRB
      go_wp2_with fail
      have hBx := hBx.alloc (.cells #[.int .i64 sp1, .int .i64 sq1, .slice A2 nn c2'] 64)
      have hbRB := hbRB.alloc (.cells #[.int .i64 sp1, .int .i64 sq1, .slice A2 nn c2'] 64)
      have hb9 : Below wr.heap.size wr (wr.alloc (.cells #[.int .i64 sp1, .int .i64 sq1, .slice A2 nn c2'] 64)) := (Below.refl _ _).alloc (Nat.le_refl _) _
      have hRow := hRow.below hb9
      have hCx := hCx.below hb9
      have hW8 := hW8.below hb9
      have hW9 := hW9.below hb9
      have hSt := Blk.new wr 64 #[.int .i64 sp1, .int .i64 sq1, .slice A2 nn c2']
      have hBw := hB.alloc hB.size (.cells #[.int .i64 sp1, .int .i64 sq1, .slice A2 nn c2'] 64)
      have hRW : ∃ cs, Blk (wr.alloc (.cells #[.int .i64 sp1, .int .i64 sq1, .slice A2 nn c2'] 64)) gr 42 cs ∧ cs[k * 4]? = some (.bool (decide (qp.num < 0))) ∧ cs[k * 4 + 1]? = some (.slice A8 k8 c8) ∧ cs[k * 4 + 2]? = some (.bool false) ∧ cs[k * 4 + 3]? = some (.slice A9 k9 c9) := by
        obtain ⟨_, cs, hbk, _⟩ := hR.out.2.2.2
        exact ⟨cs, hbk.alloc _, (hbk.cell _).symm.trans j0, (hbk.cell _).symm.trans j1, (hbk.cell _).symm.trans j2, (hbk.cell _).symm.trans j3⟩
      obtain ⟨cs7, hb7, f0, f1, f2, f3⟩ := hRW
      generalize hWW : wr.alloc (.cells #[.int .i64 sp1, .int .i64 sq1, .slice A2 nn c2'] 64) = W2 at *
      have hgz : g ≠ w.heap.size + 1 := by omega
      clear hWW hb9 hck hck' hck2 hB hR j0 j1 j2 j3
      have HCX := Lib.hid hCx
      have HROW := Lib.hid hRow
      have s5 := Kp.refl W2
      obtain ⟨t1, -, -⟩ := hSt.three
      obtain ⟨q0, q1, q2, q3, -⟩ := hBx.four
      have p0 := (hb7.cell (k * 4)).trans f0
      have p1 := (hb7.cell (k * 4 + 1)).trans f1
      have p2 := (hb7.cell (k * 4 + 2)).trans f2
      have p3 := (hb7.cell (k * 4 + 3)).trans f3
      have F0 := Lib.hid f0
      have F1 := Lib.hid f1
      have F2 := Lib.hid f2
      have F3 := Lib.hid f3
      clear hCx hRow f0 f1 f2 f3 hSt
      go_region_with (first
        | (go_at_call 50; refine (HFI.out _).mono ?_; rintro e v5 ⟨A3, k3, c3, A4, k4, c4, rfl, hk3, hk4, hW3, hW4, hF3, hF4, hb3⟩; have hp5 : Kp W2 v5 := Kp.trans (Kp.drew s5) hb3; have p0' := ((Kp.blk hp5 hb7).cell (k * 4)).trans F0.out; have p1' := ((Kp.blk hp5 hb7).cell (k * 4 + 1)).trans F1.out; have p2' := ((Kp.blk hp5 hb7).cell (k * 4 + 2)).trans F2.out; have p3' := ((Kp.blk hp5 hb7).cell (k * 4 + 3)).trans F3.out; obtain ⟨q0', q1', q2', q3', -⟩ := (Kp.blk hp5 hBx).four; clear hb3 hF3 hF4)
        | (go_at_call 71; refine (HMULH.out _ A8 A9 A3 A4 k8 c8 k9 c9 k3 c3 k4 c4 hk8 hk9 (hW8.below hp5) (hW9.below hp5) hk3 hk4 hW3 hW4).mono ?_; rintro e v6 ⟨A5, k5, c5, A6, k6, c6, rfl, hk5, hk6, hW5, hW6, hF5, hF6, hb4⟩; have hp6 : Kp W2 v6 := Kp.trans hp5 hb4; obtain ⟨q0'', q1'', q2'', q3'', -⟩ := (Kp.blk hp6 hBx).four; clear hb4 hF5 hF6)
        | (go_at_call 57; refine (HADDH.out _ A5 A6 k5 c5 k6 c6 (HCX.out.below hp6) hk5 hk6 hW5 hW6).mono ?_; rintro e v7 ⟨A7, k7, c7, B7, m7, d7, rfl, hk7, hm7, hW7, hV7, hF7, hG7, hb5⟩; have hp7 : Kp W2 v7 := Kp.trans hp6 hb5; have hz7 := Below.size hp6; obtain ⟨i0, i1, i2, i3, i4, i5, i6, i7⟩ := (Kp.blk hp7 hBx).four; clear hb5))
      all_goals
        have e8 : (((v7.setCell ⟨g, 0, none⟩ (.bool (decide ((costAt l q (k + 1)).num < 0)))).setCell ⟨g, 1, none⟩ (.slice A7 k7 c7)).setCell ⟨g, 2, none⟩ (.bool false)).setCell ⟨g, 3, none⟩ (.slice B7 m7 d7) = qst v7 g 0 (decide ((costAt l q (k + 1)).num < 0)) false A7 B7 k7 c7 m7 d7 := rfl
        rw [e8]
        have hbx8 := Kp.blk hp7 hBx
        have hz2 := hBw.size
        have hfin : CstR w g gr n l q ps (k + 1) A7 k7 c7 B7 m7 d7 (qst v7 g 0 (decide ((costAt l q (k + 1)).num < 0)) false A7 B7 k7 c7 m7 d7) := by
          refine ⟨below_qst (hBw.trans (Below.mono hp7 hBw.size)) (by omega), hbx8.put4, ?_, (HROW.out.below hp7).far4 (by omega) hbx8 NoInt.four⟩
          exact CQ.put4 ⟨hk7, hm7, hW7, hV7, hF7.mono (by omega), hG7.mono (by omega)⟩ hbx8 NoInt.four
        have hfin2 : Blk (qst v7 g 0 (decide ((costAt l q (k + 1)).num < 0)) false A7 B7 k7 c7 m7 d7) (w.heap.size + 1) 42 #[.bool false, .slice none 0 0, .bool false, .slice none 0 0] := (Kp.blk hp7 hbRB).far4 (by omega)
        generalize qst v7 g 0 (decide ((costAt l q (k + 1)).num < 0)) false A7 B7 k7 c7 m7 d7 = W8 at *
        have HF := Lib.hid hfin
        have HF2 := Lib.hid hfin2
        clear e8 hfin hfin2 hbx8 i0 i1 i2 i3 i4 i5 i6 i7 hp5 hp6 hp7 hW3 hW4 hW5 hW6 hW7 hV7 hF7 hG7 hk3 hk4 hk5 hk6 hk7 hm7 q0 q1 q2 q3 p0 p1 p2 p3 t1 hBw hBx hbRB hb7
        go_wp2
        go_roundw
        case rel => exact ⟨k + 1, A7, k7, c7, B7, m7, d7, by omega, by go_num, HF.out, HF2.out⟩
        case measure => simp [intOf]; omega
    · obtain rfl : k = n := by omega
      obtain ⟨hB, hBx, hCx, hRow⟩ := hR.out
      have hbRB := hRB.out
      obtain ⟨q0, q1, q2, q3, -⟩ := hBx.four
      obtain ⟨r0, r1, r2, r3, r4, r5, r6, r7⟩ := hbRB.four
      have hfin : CstPost w (costAt l q k) (.returned (.tuple #[.agg #[.bool (decide ((costAt l q k).num < 0)), .slice B bk bc, .bool false, .slice B' bk' bc'], .int .i64 0])) (qst wr (w.heap.size + 1) 0 (decide ((costAt l q k).num < 0)) false B B' bk bc bk' bc') :=
        ⟨B, bk, bc, B', bk', bc', rfl, hCx.put4 hbRB NoInt.four, below_qst hB (by omega)⟩
      have hb8 : Blk (qst wr (w.heap.size + 1) 0 (decide ((costAt l q k).num < 0)) false B B' bk bc bk' bc') (w.heap.size + 1) _ _ := hbRB.put4 (o := 0)
      have e8 : (((wr.setCell ⟨w.heap.size + 1, 0, none⟩ (.bool (decide ((costAt l q k).num < 0)))).setCell ⟨w.heap.size + 1, 1, none⟩ (.slice B bk bc)).setCell ⟨w.heap.size + 1, 2, none⟩ (.bool false)).setCell ⟨w.heap.size + 1, 3, none⟩ (.slice B' bk' bc') = qst wr (w.heap.size + 1) 0 (decide ((costAt l q k).num < 0)) false B B' bk bc bk' bc' := rfl
      obtain ⟨d0, d1, d2, d3, -⟩ := Blk.four hb8
      have HF := Lib.hid hfin
      have HE := Lib.hid e8
      clear hfin hb8 hR hRB hCx hRow hB e8
      go_wp2
      rw [HE.out]
      refine bodyPost_ret (v := .tuple #[.agg #[.bool (decide ((costAt l q k).num < 0)), .slice B bk bc, .bool false, .slice B' bk' bc'], .int .i64 0]) ?_ rfl HF.out
      simp [results, Tryz.results40, go_sem, d0, d1, d2, d3]

end Go.Proofs.YtnjpojpfiijlfaaGreat

namespace Go.Proofs.YtnjpojpfiijlfaaGreat
set_option linter.unusedVariables false
set_option linter.unusedSimpArgs false
open Go.RowKit
open Wd
attribute [local go_sem ↓] Go.wp_at_zero Go.wp_at_succ

/-- What is left of t when the last j curves have given, and what the next gives. -/
def shRest (xs : List Int) (n : Nat) (t : Int) : Nat → Int
  | 0 => t
  | j + 1 => shRest xs n t j - min (shRest xs n t j) (xs[n - 1 - j]?.getD 0)
def shPart (xs : List Int) (n : Nat) (t : Int) (j : Nat) : Int := min (shRest xs n t j) (xs[n - 1 - j]?.getD 0)
def shRow (xs : List Int) (n : Nat) (t : Int) (ys : List Int) : Nat → List Int
  | 0 => ys
  | j + 1 => (shRow xs n t ys j).set (n - 1 - j) ((shRow xs n t ys j)[n - 1 - j]?.getD 0 + shPart xs n t j)
def shAll (lv : List St.Lv) (n : Nat) (z : Int) : Nat → List Int
  | 0 => List.replicate n 0
  | i + 1 => shRow (lv[i]?.getD Lv0).2.2 n (partI (lvQ lv) z i) (shAll lv n z i) n
theorem shRow_len (xs : List Int) (n : Nat) (t : Int) (ys : List Int) : ∀ j, (shRow xs n t ys j).length = ys.length
  | 0 => rfl
  | j + 1 => by rw [shRow, List.length_set, shRow_len xs n t ys j]
theorem shAll_len (lv : List St.Lv) (n : Nat) (z : Int) : ∀ i, (shAll lv n z i).length = n
  | 0 => by simp [shAll]
  | i + 1 => by rw [shAll, shRow_len, shAll_len lv n z i]
theorem shRest_bd {xs : List Int} {n : Nat} {t : Int} (hx : ∀ y ∈ xs, 0 ≤ y ∧ y ≤ 1000000) (hl : xs.length = n) (h0 : 0 ≤ t) : ∀ j, j ≤ n → 0 ≤ shRest xs n t j ∧ shRest xs n t j ≤ t
  | 0, _ => ⟨h0, Int.le_refl _⟩
  | j + 1, hj => by
    obtain ⟨i1, i2⟩ := shRest_bd hx hl h0 j (by omega)
    have := hx _ (getD_mem (d := 0) (show n - 1 - j < xs.length by omega))
    rw [shRest]
    omega
theorem shPart_bd {xs : List Int} {n : Nat} {t : Int} (hx : ∀ y ∈ xs, 0 ≤ y ∧ y ≤ 1000000) (hl : xs.length = n) (h0 : 0 ≤ t) {j : Nat} (hj : j < n) : 0 ≤ shPart xs n t j ∧ shPart xs n t j ≤ 1000000 := by
  obtain ⟨i1, i2⟩ := shRest_bd hx hl h0 j (by omega)
  have := hx _ (getD_mem (d := 0) (show n - 1 - j < xs.length by omega))
  unfold shPart
  omega
def BdR (c : Int) (ys : List Int) : Prop := ∀ i : Nat, 0 ≤ ys[i]?.getD 0 ∧ ys[i]?.getD 0 ≤ c
theorem shRow_bd {xs : List Int} {n : Nat} {t c : Int} {ys : List Int} (hx : ∀ y ∈ xs, 0 ≤ y ∧ y ≤ 1000000) (hl : xs.length = n) (hy : ys.length = n) (h0 : 0 ≤ t) (hc : BdR c ys) :
    ∀ j, j ≤ n → (∀ i : Nat, 0 ≤ (shRow xs n t ys j)[i]?.getD 0 ∧ (shRow xs n t ys j)[i]?.getD 0 ≤ c + 1000000) ∧ ∀ i : Nat, i < n - j → (shRow xs n t ys j)[i]?.getD 0 = ys[i]?.getD 0
  | 0, _ => ⟨fun i => by have := hc i; simp only [shRow]; omega, fun i _ => rfl⟩
  | j + 1, hj => by
    obtain ⟨i1, i2⟩ := shRow_bd hx hl hy h0 hc j (by omega)
    have hp := shPart_bd hx hl h0 (show j < n by omega)
    have hlen := shRow_len xs n t ys j
    constructor
    · intro i
      rw [shRow, List.getElem?_set]
      split
      · rename_i he
        subst he
        have e := i2 (n - 1 - j) (by omega)
        have := hc (n - 1 - j)
        rw [if_pos (by omega)]
        simp only [Option.getD_some]
        omega
      · exact i1 i
    · intro i hi
      rw [shRow, List.getElem?_set_ne (by omega)]
      exact i2 i (by omega)
theorem shAll_bd {up : Bool} {n : Nat} {lv : List St.Lv} (hv : VL up n lv) {z : Int} (h0 : ∀ i, i < lv.length → 0 ≤ partI (lvQ lv) z i) : ∀ i, i ≤ lv.length → BdR (1000000 * (i : Int)) (shAll lv n z i)
  | 0, _ => fun i => by simp [shAll, List.getElem?_replicate]; split <;> simp
  | i + 1, hi => fun k => by
    have ih := shAll_bd hv h0 i (by omega)
    have hp := hv.parts _ (getD_mem (d := Lv0) (show i < lv.length by omega))
    have := (shRow_bd hp.2 hp.1 (shAll_len lv n z i) (h0 i (by omega)) ih n (Nat.le_refl _)).1 k
    rw [shAll]
    have e : (1000000 : Int) * ((i + 1 : Nat) : Int) = 1000000 * (i : Int) + 1000000 := by omega
    rw [e]
    exact this
def castR (ys : List Int) : List Rat := ys.map fun y => ((y : Int) : Rat)
theorem castR_get (ys : List Int) (i : Nat) : (castR ys)[i]?.getD 0 = ((ys[i]?.getD 0 : Int) : Rat) := by
  unfold castR
  rw [List.getElem?_map]
  cases ys[i]? <;> rfl
theorem castR_set (ys : List Int) (i : Nat) (y : Int) : castR (ys.set i y) = (castR ys).set i ((y : Int) : Rat) := by
  unfold castR
  rw [List.map_set]
/-- A canonical rational, wherever it lies. -/
def WQ (w : World) (q : Rat) (A : Option Addr) (k c : Nat) (A' : Option Addr) (k' c' : Nat) : Prop := k ≤ c ∧ k' ≤ c' ∧ Wat w A k (digs q.num.natAbs) ∧ Wat w A' k' (denW q.den)
section
variable {w w' : World} {q : Rat} {A A' : Option Addr} {k c k' c' : Nat}
theorem WQ.below (h : WQ w q A k c A' k' c') (hb : Below w.heap.size w w') : WQ w' q A k c A' k' c' := ⟨h.1, h.2.1, h.2.2.1.below hb, h.2.2.2.below hb⟩
theorem WQ.put4 {g o : Nat} {a b : Bool} {B B' : Option Addr} {j d j' d' : Nat} {t : TypeId} {cs : Array Value} (h : WQ w q A k c A' k' c') (hb : Blk w g t cs) (hn : NoInt cs) : WQ (qst w g o a b B B' j d j' d') q A k c A' k' c' :=
  ⟨h.1, h.2.1, h.2.2.1.put4 hb hn, h.2.2.2.put4 hb hn⟩
theorem WQ.at (h : WQ w q A k c A' k' c') (hn : q.num.natAbs < 1152921504606846976) (hd : q.den < 2) : QAt 1152921504606846976 2 w (decide (q.num < 0)) A k c false A' k' c' q :=
  qat_len wok_small (by omega) (by omega) h.1 h.2.1 h.2.2.1 h.2.2.2 hn hd
end
theorem qaddI (x y : Int) (hx : x.natAbs < 1000000000000) (hy : y.natAbs < 1000000000000) {W : World} {B B' B2 B2' : Option Addr} {bk bc bk' bc' j d j' d' : Nat} (h1 : WQ W (x : Rat) B bk bc B' bk' bc') (h2 : WQ W (y : Rat) B2 j d B2' j' d') :
    Calls Tryz.prog 57 #[.agg #[.bool (decide (((x : Int) : Rat).num < 0)), .slice B bk bc, .bool false, .slice B' bk' bc'], .agg #[.bool (decide (((y : Int) : Rat).num < 0)), .slice B2 j d, .bool false, .slice B2' j' d']] W (RetQ W ((x + y : Int) : Rat)) := by
  have := qadd_any 4611686018427387904 1152921504606846976 2 wok_small (by omega) (by omega) _ false _ false B B' B2 B2' bk bc bk' bc' j d j' d' (x : Rat) (y : Rat) W (h1.at (by rw [Rat.num_intCast]; omega) (by rw [Rat.den_intCast]; omega)) (h2.at (by rw [Rat.num_intCast]; omega) (by rw [Rat.den_intCast]; omega))
  rwa [← Rat.intCast_add] at this
theorem qsubI (x y : Int) (hx : x.natAbs < 1000000000000) (hy : y.natAbs < 1000000000000) {W : World} {B B' B2 B2' : Option Addr} {bk bc bk' bc' j d j' d' : Nat} (h1 : WQ W (x : Rat) B bk bc B' bk' bc') (h2 : WQ W (y : Rat) B2 j d B2' j' d') :
    Calls Tryz.prog 72 #[.agg #[.bool (decide (((x : Int) : Rat).num < 0)), .slice B bk bc, .bool false, .slice B' bk' bc'], .agg #[.bool (decide (((y : Int) : Rat).num < 0)), .slice B2 j d, .bool false, .slice B2' j' d']] W (RetQ W ((x - y : Int) : Rat)) := by
  have := qsub_any 4611686018427387904 1152921504606846976 2 wok_small (by omega) (by omega) _ false _ false B B' B2 B2' bk bc bk' bc' j d j' d' (x : Rat) (y : Rat) W (h1.at (by rw [Rat.num_intCast]; omega) (by rw [Rat.den_intCast]; omega)) (h2.at (by rw [Rat.num_intCast]; omega) (by rw [Rat.den_intCast]; omega))
  rwa [← Rat.intCast_sub] at this
theorem qminI (x y : Int) (hx : x.natAbs < 1000000000000) (hy : y.natAbs < 1000000000000) {W : World} {B B' B2 B2' : Option Addr} {bk bc bk' bc' j d j' d' : Nat} (h1 : WQ W (x : Rat) B bk bc B' bk' bc') (h2 : WQ W (y : Rat) B2 j d B2' j' d') :
    Calls Tryz.prog 98 #[.agg #[.bool (decide (((x : Int) : Rat).num < 0)), .slice B bk bc, .bool false, .slice B' bk' bc'], .agg #[.bool (decide (((y : Int) : Rat).num < 0)), .slice B2 j d, .bool false, .slice B2' j' d']] W (RetQ W ((min x y : Int) : Rat)) := by
  have := qless_any 4611686018427387904 1152921504606846976 2 wok_small (by omega) (by omega) (h1.at (by rw [Rat.num_intCast]; omega) (by rw [Rat.den_intCast]; omega)) h2.1 h2.2.1 h2.2.2.1 h2.2.2.2 (by omega) (by omega) (by omega)
  rwa [lessQ_whole] at this

end Go.Proofs.YtnjpojpfiijlfaaGreat

namespace Go.Proofs.YtnjpojpfiijlfaaGreat
set_option linter.unusedVariables false
set_option linter.unusedSimpArgs false
open Go.RowKit
open Wd
attribute [local go_sem ↓] Go.wp_at_zero Go.wp_at_succ

theorem kp_set4 {W w' : World} (h : Kp W w') {g : Nat} (hg : W.heap.size ≤ g) (a b c d : Value) : Kp W ((((w'.setCell ⟨g, 0, none⟩ a).setCell ⟨g, 1, none⟩ b).setCell ⟨g, 2, none⟩ c).setCell ⟨g, 3, none⟩ d) :=
  (((h.set (p := ⟨g, 0, none⟩) hg a).set (p := ⟨g, 1, none⟩) hg b).set (p := ⟨g, 2, none⟩) hg c).set (p := ⟨g, 3, none⟩) hg d
def ShO (w : World) (gt gs m n : Nat) (ts : List Rat) (ys : List Int) (wr : World) : Prop := Below w.heap.size w wr ∧ QRow wr gt m ts ∧ QRow wr gs n (castR ys)
def ShR (w : World) (gl gb gt gs m n : Nat) (p q : Int) (A2 : Option Addr) (c2 : Nat) (ts : List Rat) (ys : List Int) (r : Rat) (B : Option Addr) (bk bc : Nat) (B' : Option Addr) (bk' bc' : Nat) (wr : World) : Prop :=
  Below w.heap.size w wr ∧ Blk wr gl 64 #[.int .i64 p, .int .i64 q, .slice A2 n c2] ∧ Blk wr gb 42 #[.bool (decide (r.num < 0)), .slice B bk bc, .bool false, .slice B' bk' bc'] ∧ WQ wr r B bk bc B' bk' bc' ∧ QRow wr gt m ts ∧ QRow wr gs n (castR ys)

theorem partI_bd {l : List (Int × Int)} (hok : OkQ l) {z : Int} (h0 : 0 ≤ z) : ∀ k, k ≤ l.length → 0 ≤ restI l z k ∧ restI l z k ≤ z
  | 0, _ => ⟨h0, Int.le_refl _⟩
  | k + 1, hk => by
    obtain ⟨i1, i2⟩ := partI_bd hok h0 k (by omega)
    have := hok _ (getD_mem (d := (0, 0)) (show k < l.length by omega))
    rw [restI]
    omega

set_option maxRecDepth 100000 in
set_option maxHeartbeats 16000000 in
theorem share_ok (up : Bool) (A : Option Addr) (m n c : Nat) (lv : List St.Lv) (z : Int) (aA aA' : Option Addr) (ak ac ak' ac' : Nat) (w : World) (h : LvAt w A m n lv) (hv : VL up n lv) (hq : WQ w (z : Rat) aA ak ac aA' ak' ac') (h0 : 0 ≤ z) (h1 : z ≤ totI lv) (hm0 : m ≠ 0) :
    Calls Tryz.prog 39 #[.slice A m c, .agg #[.bool (decide (((z : Int) : Rat).num < 0)), .slice aA ak ac, .bool false, .slice aA' ak' ac']] w fun e w' => ∃ g, e = .returned (.tuple #[.slice (some ⟨g, 0, none⟩) n n, .int .i64 0]) ∧ QRow w' g n (castR (shAll lv n z m)) ∧ w.heap.size ≤ g ∧ Below w.heap.size w w' := by
  have hl := h.1
  have hm : m ≤ 48 := by have := hv.len; omega
  have hn1 : 1 ≤ n := hv.n0 (by omega)
  have hn16 := hv.n16
  have hz := (tot_bd lv hv.qty).2
  have hzb : z ≤ 768000000 := by omega
  have HF0 := Lib.hid (fun W (hW : Below w.heap.size w W) => fill_ok 4611686018427387904 1152921504606846976 2 wok_small (by omega) (by omega) (by omega) (by omega) (by omega) (by omega) (by omega) up A m n c lv _ false aA aA' ak ac ak' ac' (z : Rat) W (h.below hW) ((hq.below hW).at (by rw [Rat.num_intCast]; omega) (by rw [Rat.den_intCast]; omega)) hv (by exact_mod_cast h0) (by exact_mod_cast h1))
  have HPB := Lib.hid (fun i (hi : i < m) => (⟨by
      have := partI_bd hv.okQ h0 i (by rw [lvQ_len]; omega)
      have h2 := hv.okQ _ (getD_mem (d := (0, 0)) (show i < (lvQ lv).length by rw [lvQ_len]; omega))
      unfold partI; omega, by
      have := partI_bd hv.okQ h0 i (by rw [lvQ_len]; omega)
      unfold partI; omega⟩ : 0 ≤ partI (lvQ lv) z i ∧ partI (lvQ lv) z i ≤ z))
  have HL := Lib.hid h
  have HV := Lib.hid hv
  have HPW := Lib.hid (fun j => partAt_whole (lvQ lv) z j)
  have HLN := Lib.hid hl
  have hmk := fun w => run_make_Q n (by omega) w
  generalize ((z : Int) : Rat) = zq at *
  clear h hv hq hz h1 hl
  go_enter Tryz.func39, Tryz.ntmps39
  go_wp2_with fail
  have hB0 := Blk.new w 42 #[.bool (decide (zq.num < 0)), .slice aA ak ac, .bool false, .slice aA' ak' ac']
  have hBW : Below w.heap.size w (w.alloc (.cells #[.bool (decide (zq.num < 0)), .slice aA ak ac, .bool false, .slice aA' ak' ac'] 42)) := (Below.refl _ _).alloc (Nat.le_refl _) _
  have hsz : (w.alloc (.cells #[.bool (decide (zq.num < 0)), .slice aA ak ac, .bool false, .slice aA' ak' ac'] 42)).heap.size = w.heap.size + 1 := by simp
  generalize w.alloc (.cells #[.bool (decide (zq.num < 0)), .slice aA ak ac, .bool false, .slice aA' ak' ac'] 42) = W at *
  have HSZ := Lib.hid hsz
  clear hsz
  refine (HF0.out W hBW).mono ?_
  rintro e w1 ⟨gt, ts, rfl, hRow, hPs, hgt, hb1⟩
  have HB1 := Lib.hid (hBW.trans (hb1.mono hBW.size))
  have HRT := Lib.hid hRow
  have HPS := Lib.hid hPs
  have hgt2 : w.heap.size ≤ gt := Nat.le_trans hBW.size hgt
  obtain ⟨b, o, rfl, hb, hcell⟩ := HL.out.2 hm0
  obtain ⟨A0, c0, ⟨-, -, z2⟩, -⟩ := hcell 0 (by omega)
  rw [Nat.zero_mul, Nat.add_zero] at z2
  replace z2 := (HB1.out.cell (p := ⟨b, o + 2, none⟩) hb).trans z2
  have m0 : (0 : Int) < (m : Int) := by omega
  have mz : ((m : Int) == 0) = false := by simp; omega
  have HCL := Lib.hid hcell
  clear HF0 hRow hPs hgt hBW hb1 HSZ hB0 hcell
  go_wp2_with fail
  have hgtl : gt < w1.heap.size := by obtain ⟨_, cs, hbk, _⟩ := HRT.out; exact hbk.lt
  have hst : ShO w gt w1.heap.size m n ts (shAll lv n z 0) (w1.alloc (.cells (madeCells qzero (n * 4)) 42)) := by
    refine ⟨HB1.out.alloc HB1.out.size _, HRT.out.below ((Below.refl _ _).alloc (Nat.le_refl _) _), ?_⟩
    have := QRow.start w1 n
    rw [shAll]
    unfold castR
    rw [List.map_replicate]
    exact this
  have HST := Lib.hid hst
  have hgs : w.heap.size ≤ w1.heap.size := HB1.out.size
  clear hst hmk HB1 HRT z2
  generalize w1.alloc (.cells (madeCells qzero (n * 4)) 42) = W0 at *
  generalize w1.heap.size = gs at *
  go_loopw [36] (fun t wr => ∃ i : Nat, i ≤ m ∧ t = .int .i64 i ∧ Hid (ShO w gt gs m n ts (shAll lv n z i) wr)) (fun t _ => m - (intOf t).toNat)
  case atStart => exact ⟨0, Nat.zero_le _, rfl, HST.out⟩
  case round =>
    clear HST
    obtain ⟨i, hi, rfl, hR⟩ := hrel
    by_cases hlt : i < m
    · obtain ⟨hB, hRT, hRS⟩ := hR.out
      obtain ⟨A2, c2, ⟨y0, y1, y2⟩, hpt⟩ := HCL.out i hlt
      replace y0 := (hB.cell (p := ⟨b, o + i * 3, none⟩) hb).trans y0
      replace y1 := (hB.cell (p := ⟨b, o + i * 3 + 1, none⟩) hb).trans y1
      replace y2 := (hB.cell (p := ⟨b, o + i * 3 + 2, none⟩) hb).trans y2
      have hp := HV.out.parts _ (getD_mem (d := Lv0) (show i < lv.length by rw [HLN.out]; exact hlt))
      have hsa : shAll lv n z (i + 1) = shRow (lv[i]?.getD Lv0).2.2 n (partI (lvQ lv) z i) (shAll lv n z i) n := rfl
      obtain ⟨pb1, pb2⟩ := HPB.out i hlt
      have hbd := shAll_bd HV.out (z := z) (fun k hk => (HPB.out k (by rw [← HLN.out]; exact hk)).1) i (by rw [HLN.out]; omega)
      have hyl := shAll_len lv n z i
      obtain ⟨A8, k8, c8, A9, k9, c9, j0, j1, j2, j3, -, -, -, -, hk8, hk9, hW8, hW9⟩ := hRT.cells hlt
      have hps := HPS.out i hlt
      rw [HPW.out] at hps
      rw [hps] at j0 hW8 hW9
      generalize (lv[i]?.getD Lv0).1 = p at *
      generalize (lv[i]?.getD Lv0).2.1 = q at *
      generalize (lv[i]?.getD Lv0).2.2 = xs at *
      generalize hyn : shAll lv n z (i + 1) = yn at *
      have HYN := Lib.hid hyn
      clear hyn
      generalize shAll lv n z i = ys at *
      generalize partI (lvQ lv) z i = t at *
      have hki1 : (0 : Int) ≤ (i : Int) := by omega
      have hki2 : (i : Int) < (m : Int) := by omega
      have hgt9 : gt < wr.heap.size := by obtain ⟨_, cs, hbk, _⟩ := hRT; exact hbk.lt
      have hgs9 : gs < wr.heap.size := by obtain ⟨_, cs, hbk, _⟩ := hRS; exact hbk.lt
      have xn : IntKind.i64.wrap ((n : Int) - 1) = (n : Int) - 1 := IntWalk.i64_in _ (by omega)
      have HP := Lib.hid hp
      have HSA := Lib.hid hsa
      have HBD := Lib.hid hbd
      have HYL := Lib.hid hyl
      have HPT := Lib.hid hpt
      have HB9 := Lib.hid hB
      have HRT9 := Lib.hid hRT
      have HRS9 := Lib.hid hRS
      have HW8 := Lib.hid (⟨hk8, hk9, hW8, hW9⟩ : WQ wr (t : Rat) A8 k8 c8 A9 k9 c9)
      generalize htq : ((t : Int) : Rat) = tq at *
      have HTQ := Lib.hid htq
      clear htq
      clear hp hsa hbd hyl hpt hR hps hW8 hW9 hk8 hk9 hB hRT hRS
      go_wp2_with fail
      have kp := ((Kp.refl wr).alloc (.cells #[.int .i64 p, .int .i64 q, .slice A2 n c2] 64)).alloc (.cells #[.bool (decide (tq.num < 0)), .slice A8 k8 c8, .bool false, .slice A9 k9 c9] 42)
      have hst2 : ShR w wr.heap.size (wr.heap.size + 1) gt gs m n p q A2 c2 ts (shRow xs n t ys 0) tq A8 k8 c8 A9 k9 c9 ((wr.alloc (.cells #[.int .i64 p, .int .i64 q, .slice A2 n c2] 64)).alloc (.cells #[.bool (decide (tq.num < 0)), .slice A8 k8 c8, .bool false, .slice A9 k9 c9] 42)) :=
        ⟨HB9.out.trans (Below.mono kp HB9.out.size), (Blk.new wr _ _).alloc _, Blk.new1 wr _ _ _, WQ.below HW8.out kp, HRT9.out.below kp, HRS9.out.below kp⟩
      have HST2 := Lib.hid hst2
      have hwl : w.heap.size ≤ wr.heap.size := HB9.out.size
      clear hst2 kp y0 y1 y2 j0 j1 j2 j3 HB9 HRT9 HRS9 HW8
      generalize (wr.alloc (.cells #[.int .i64 p, .int .i64 q, .slice A2 n c2] 64)).alloc (.cells #[.bool (decide (tq.num < 0)), .slice A8 k8 c8, .bool false, .slice A9 k9 c9] 42) = W1 at *
      generalize wr.heap.size = gl at *
      go_loopw [12] (fun tt wx => ∃ (j : Nat) (ci : Int) (rq : Rat) (B : Option Addr) (bk bc : Nat) (B' : Option Addr) (bk' bc' : Nat), j ≤ n ∧ tt = .int .i64 ci ∧ Hid (ci = (n : Int) - 1 - (j : Int)) ∧ Hid (rq = ((shRest xs n t j : Int) : Rat)) ∧ Hid (ShR w gl (gl + 1) gt gs m n p q A2 c2 ts (shRow xs n t ys j) rq B bk bc B' bk' bc' wx)) (fun tt _ => (intOf tt + 1).toNat)
      case atStart => exact ⟨0, (n : Int) - 1, tq, A8, k8, c8, A9, k9, c9, Nat.zero_le _, rfl, by show (n : Int) - 1 = (n : Int) - 1 - ((0 : Nat) : Int); omega, HTQ.out.symm, HST2.out⟩
      case round =>
        clear HST2
        obtain ⟨j, ci, rq, B, bk, bc, B', bk', bc', hj, rfl, hci, hrq, hR⟩ := hrel
        by_cases hjn : j < n
        · obtain ⟨cN, rfl⟩ : ∃ cN : Nat, ci = (cN : Int) := ⟨n - 1 - j, by have := hci.out; omega⟩
          have hcn : n - 1 - j = cN := by have := hci.out; omega
          have hcl : cN < n := by omega
          obtain ⟨hB, hBL, hBR, hWQ, hRT, hRS⟩ := hR.out
          obtain ⟨b5, o5, rfl, hb5, hc5⟩ := HPT.out.2 (by omega)
          have cx := (hB.cell (p := ⟨b5, o5 + cN, none⟩) hb5).trans (hc5 cN hcl)
          have hxb := HP.out.2 _ (getD_mem (d := 0) (show cN < xs.length by rw [HP.out.1]; exact hcl))
          obtain ⟨rb1, rb2⟩ := shRest_bd HP.out.2 HP.out.1 pb1 j hj
          have hrowb := (shRow_bd HP.out.2 HP.out.1 HYL.out pb1 HBD.out j hj).1 cN
          have hrs1 : shRest xs n t (j + 1) = shRest xs n t j - min (shRest xs n t j) (xs[cN]?.getD 0) := by rw [shRest, hcn]
          have hrw1 : shRow xs n t ys (j + 1) = (shRow xs n t ys j).set cN ((shRow xs n t ys j)[cN]?.getD 0 + min (shRest xs n t j) (xs[cN]?.getD 0)) := by rw [shRow, hcn]; unfold shPart; rw [hcn]
          have hlen : (shRow xs n t ys j).length = n := by rw [shRow_len]; exact HYL.out
          obtain ⟨A6, k6, c6, A7, k7, c7, s0, s1, s2, s3, sf0, sf1, sf2, sf3, hk6, hk7, hW6, hW7⟩ := hRS.cells hcl
          rw [castR_get] at s0 hW6 hW7
          have hrq2 := hrq.out
          subst hrq2
          generalize hrne : shRow xs n t ys (j + 1) = rn at *
          have HRN := Lib.hid hrne
          generalize hrow0 : shRow xs n t ys j = ro at *
          generalize hr1e : shRest xs n t (j + 1) = r1 at *
          have HR1E := Lib.hid hr1e
          generalize shRest xs n t j = r0 at *
          generalize xs[cN]?.getD 0 = x at *
          generalize ro[cN]?.getD 0 = y at *
          have FI := fun W => qfromInt64_any x W (by omega) (by omega)
          have HMIN := fun (W : World) (B2 B2' : Option Addr) (j2 d2 j2' d2' : Nat) (h1 : WQ W ((r0 : Int) : Rat) B bk bc B' bk' bc') (h2 : WQ W ((x : Int) : Rat) B2 j2 d2 B2' j2' d2') => qminI r0 x (by omega) (by omega) h1 h2
          have HADD := fun (W : World) (B2 B2' : Option Addr) (j2 d2 j2' d2' : Nat) (h1 : WQ W ((y : Int) : Rat) A6 k6 c6 A7 k7 c7) (h2 : WQ W ((min r0 x : Int) : Rat) B2 j2 d2 B2' j2' d2') => qaddI y (min r0 x) (by omega) (by omega) h1 h2
          have HSUB := fun (W : World) (B2 B2' : Option Addr) (j2 d2 j2' d2' : Nat) (h1 : WQ W ((r0 : Int) : Rat) B bk bc B' bk' bc') (h2 : WQ W ((min r0 x : Int) : Rat) B2 j2 d2 B2' j2' d2') => qsubI r0 (min r0 x) (by omega) (by omega) h1 h2
          rw [← hrs1] at HSUB
          have hcs := castR_set ro cN (y + min r0 x)
          rw [← hrw1] at hcs
          have hwy : WQ wr ((y : Int) : Rat) A6 k6 c6 A7 k7 c7 := ⟨hk6, hk7, hW6, hW7⟩
          generalize ((y + min r0 x : Int) : Rat) = sq at *
          generalize ((y : Int) : Rat) = yq at *
          generalize ((min r0 x : Int) : Rat) = mq at *
          generalize ((x : Int) : Rat) = xq at *
          generalize hr1q : ((r1 : Int) : Rat) = nq at *
          generalize ((r0 : Int) : Rat) = rq at *
          have FI := Lib.hid FI
          have HMIN := Lib.hid HMIN
          have HADD := Lib.hid HADD
          have HSUB := Lib.hid HSUB
          have HCS := Lib.hid hcs
          have HWY := Lib.hid hwy
          have HWQ := Lib.hid hWQ
          have HRT := Lib.hid hRT
          have HRS := Lib.hid hRS
          have HR1 := Lib.hid hr1q
          have HBB := Lib.hid hB
          have hcI : Hid ((cN : Int) - 1 = (n : Int) - 1 - ((j + 1 : Nat) : Int)) := Lib.hid (by omega)
          have d0 : decide ((0 : Int) ≤ (cN : Int)) = true := by simp
          have i1 : (0 : Int) ≤ (cN : Int) := by omega
          have i2 : (cN : Int) < (n : Int) := by omega
          have hb5r : b5 < wr.heap.size := Nat.lt_of_lt_of_le hb5 hB.size
          have s5 := Kp.refl wr
          have hS : ∀ w', Kp wr w' → (w'.cell? ⟨gl + 1, 0, none⟩ = some (.bool (decide (rq.num < 0))) ∧ w'.cell? ⟨gl + 1, 1, none⟩ = some (.slice B bk bc) ∧ w'.cell? ⟨gl + 1, 2, none⟩ = some (.bool false) ∧ w'.cell? ⟨gl + 1, 3, none⟩ = some (.slice B' bk' bc') ∧ w'.cell? ⟨gl, 2, none⟩ = some (.slice (some ⟨b5, o5, none⟩) n c2) ∧ w'.cell? ⟨b5, o5 + cN, none⟩ = some (.int .i64 x)) ∧ Kp wr w' := fun w' hk => ⟨⟨(hk.blk hBR).cell 0, (hk.blk hBR).cell 1, (hk.blk hBR).cell 2, (hk.blk hBR).cell 3, (hk.blk hBL).cell 2, (Below.cell hk (p := ⟨b5, o5 + cN, none⟩) hb5r).trans cx⟩, hk⟩
          have HS := Lib.hid hS
          clear hS hci hrq hR hrs1 hrw1 hlen hxb rb1 rb2 hrowb hcs hwy hWQ hRT hRS hr1q hc5 hW6 hW7 hrow0 hcn hB hrne hr1e
          go_wp2_with fail
          go_region_held3 (fun w' => (w'.cell? ⟨gl + 1, 0, none⟩ = some (.bool (decide (rq.num < 0))) ∧ w'.cell? ⟨gl + 1, 1, none⟩ = some (.slice B bk bc) ∧ w'.cell? ⟨gl + 1, 2, none⟩ = some (.bool false) ∧ w'.cell? ⟨gl + 1, 3, none⟩ = some (.slice B' bk' bc') ∧ w'.cell? ⟨gl, 2, none⟩ = some (.slice (some ⟨b5, o5, none⟩) n c2) ∧ w'.cell? ⟨b5, o5 + cN, none⟩ = some (.int .i64 x)) ∧ Kp wr w')
            (first | (with_reducible refine HS.out _ ?_; with_reducible assumption) | (with_reducible refine HS.out _ (Kp.drew ?_); with_reducible assumption) | (with_reducible refine' HS.out _ (Kp.drew (And.right ?_)); rotate_left; with_reducible assumption) | (with_reducible refine' HS.out _ (Kp.alloc (And.right ?_) _); rotate_left; with_reducible assumption) | (with_reducible refine' HS.out _ (Kp.alloc ?_ _); rotate_left; with_reducible assumption) | (with_reducible refine HS.out _ (Kp.drew (Kp.alloc ?_ _)); with_reducible assumption) | ((with_reducible refine' HS.out _ (kp_set4 (And.right ?_) ?_ _ _ _ _)); rotate_left; (with_reducible assumption); first | exact Nat.le_refl _ | exact Below.size hp5))
            (first
              | (go_at_call 50; have hk := And.right ‹_ ∧ Kp wr _›; refine (FI.out _).mono ?_; rintro e v5 ⟨A3, k3, c3, A4, k4, c4, rfl, hk3, hk4, hW3, hW4, hF3, hF4, hb3⟩; have hp5 := Kp.trans hk hb3; (try have hN5 := Blk.below (Blk.drew (Blk.new wr 42 #[.bool false, .slice none 0 0, .bool false, .slice none 0 0])) hb3 (Nat.lt_of_lt_of_eq (Nat.lt_succ_self _) (World.size_alloc _ _).symm)); clear hk hF3 hF4 hb3)
              | (go_at_call 98; have hk := And.right ‹_ ∧ Kp wr _›; refine (HMIN.out _ A3 A4 k3 c3 k4 c4 (WQ.below HWQ.out hk) ⟨hk3, hk4, by first | exact hW3 | exact hW3.alloc _, by first | exact hW4 | exact hW4.alloc _⟩).mono ?_; rintro e v6 ⟨E5, e5, f5, E6, e6, f6, rfl, he5, he6, hV5, hV6, hF5, hF6, hb4⟩; have hp6 := Kp.trans hk hb4; (try (have hN6 := hN5.below hb4 hN5.lt; obtain ⟨z0, z1, z2, z3, z4, z5, z6, z7⟩ := Blk.four hN6)); (try (have hN6 := Blk.below (Blk.new v5 42 #[.bool false, .slice none 0 0, .bool false, .slice none 0 0]) hb4 (Nat.lt_of_lt_of_eq (Nat.lt_succ_self _) (World.size_alloc _ _).symm); obtain ⟨z0, z1, z2, z3, z4, z5, z6, z7⟩ := Blk.four hN6)); clear hk hb4))
          · have hVb : Blk (v6.alloc (.cells #[.bool (decide (mq.num < 0)), .slice E5 e5 f5, .bool false, .slice E6 e6 f6] 42)) (v6.heap.size) 42 #[.bool (decide (mq.num < 0)), .slice E5 e5 f5, .bool false, .slice E6 e6 f6] := Blk.new _ _ _
            have hVc : WQ (v6.alloc (.cells #[.bool (decide (mq.num < 0)), .slice E5 e5 f5, .bool false, .slice E6 e6 f6] 42)) mq E5 e5 f5 E6 e6 f6 := WQ.below ⟨he5, he6, hV5, hV6⟩ ((Below.refl _ _).alloc (Nat.le_refl _) _)
            have hVk : Kp wr (v6.alloc (.cells #[.bool (decide (mq.num < 0)), .slice E5 e5 f5, .bool false, .slice E6 e6 f6] 42)) := Kp.alloc hp6 _
            have hg9 : gl + 1 < v6.heap.size := Nat.lt_of_lt_of_le hBR.lt (by first | exact Nat.le_refl _ | exact Below.size hp5 | exact Below.size hp6)
            generalize v6.alloc (.cells #[.bool (decide (mq.num < 0)), .slice E5 e5 f5, .bool false, .slice E6 e6 f6] 42) = V at *
            generalize hgg : v6.heap.size = g9 at *
            have hBR9 := Kp.blk hVk hBR
            have hBL9 := Kp.blk hVk hBL
            have hlr : gl + 1 < wr.heap.size := hBR.lt
            have hgsr : gs < wr.heap.size := by omega
            have hRS9 := HRS.out.below hVk
            have hRT9 := HRT.out.below hVk
            have hB9 : Below w.heap.size w V := HBB.out.trans (Below.mono hVk HBB.out.size)
            have t0 := (Below.cell hVk (p := ⟨gs, cN * 4, none⟩) hgsr).trans s0
            have t1 := (Below.cell hVk (p := ⟨gs, cN * 4 + 1, none⟩) hgsr).trans s1
            have t2 := (Below.cell hVk (p := ⟨gs, cN * 4 + 2, none⟩) hgsr).trans s2
            have t3 := (Below.cell hVk (p := ⟨gs, cN * 4 + 3, none⟩) hgsr).trans s3
            obtain ⟨a0, a1, a2, a3, -⟩ := hVb.four
            have HAD := Lib.hid (fun W (hW : Kp V W) => HADD.out W E5 E6 e5 f5 e6 f6 (HWY.out.below (Below.trans hVk (Below.mono hW (Below.size hVk)))) (hVc.below hW))
            have hVc9 := Lib.hid hVc
            have hRS9 := Lib.hid hRS9
            have s9 := Kp.refl V
            rename_i hHeld
            clear hHeld
            clear FI HMIN HADD HS hp5 hp6 hW3 hW4 hk3 hk4 hVc s0 s1 s2 s3 sf0 sf1 sf2 sf3 cx
            (try clear z0 z1 z2 z3 z4 z5 z6 z7 hN6)
            (try clear hN5)
            clear hgg
            go_wp2_with fail
            go_region_with (first | (go_at_call 57; refine (HAD.out _ (Kp.drew s9)).mono ?_; rintro e v8 ⟨A5, k5, c5, A8', k8', c8', rfl, hk5, hk8', hW5, hW8', hF5', hF8', hb8⟩; have hp8 : Kp V v8 := Kp.trans (Kp.drew s9) hb8; obtain ⟨_, _, _, _, _, _, i0, i1', i2', i3, i4, i5, i6, i7, -⟩ := (hRS9.out.below hp8).cells hcl; clear hb8))
            all_goals
              have e7 : (((v8.setCell ⟨gs, cN * 4, none⟩ (.bool (decide (sq.num < 0)))).setCell ⟨gs, cN * 4 + 1, none⟩ (.slice A5 k5 c5)).setCell ⟨gs, cN * 4 + 2, none⟩ (.bool false)).setCell ⟨gs, cN * 4 + 3, none⟩ (.slice A8' k8' c8') = qst v8 gs (cN * 4) (decide (sq.num < 0)) false A5 A8' k5 c5 k8' c8' := rfl
              rw [e7]
              have hRow6 := hRS9.out.below hp8
              have hRow7 := hRow6.put hcl hk5 hk8' hW5 hW8'
              rw [← HCS.out] at hRow7
              obtain ⟨hlen6, cs6, hbk6, hni6, -⟩ := hRow6
              have hBR7 : Blk (qst v8 gs (cN * 4) (decide (sq.num < 0)) false A5 A8' k5 c5 k8' c8') (gl + 1) _ _ := (Kp.blk hp8 hBR9).far4 (by omega)
              have hBL7 : Blk (qst v8 gs (cN * 4) (decide (sq.num < 0)) false A5 A8' k5 c5 k8' c8') gl _ _ := (Kp.blk hp8 hBL9).far4 (by omega)
              have hVb7 : Blk (qst v8 gs (cN * 4) (decide (sq.num < 0)) false A5 A8' k5 c5 k8' c8') g9 _ _ := (Kp.blk hp8 hVb).far4 (by omega)
              have hRT7 := (hRT9.below hp8).far4 (o := cN * 4) (a := decide (sq.num < 0)) (b := false) (A := A5) (A' := A8') (k := k5) (c := c5) (k' := k8') (c' := c8') (by omega) hbk6 hni6
              have hWQ7 := (WQ.below (WQ.below HWQ.out hVk) hp8).put4 (o := cN * 4) (a := decide (sq.num < 0)) (b := false) (B := A5) (B' := A8') (j := k5) (d := c5) (j' := k8') (d' := c8') hbk6 hni6
              have hMQ7 := (hVc9.out.below hp8).put4 (o := cN * 4) (a := decide (sq.num < 0)) (b := false) (B := A5) (B' := A8') (j := k5) (d := c5) (j' := k8') (d' := c8') hbk6 hni6
              have hB7 : Below w.heap.size w (qst v8 gs (cN * 4) (decide (sq.num < 0)) false A5 A8' k5 c5 k8' c8') := below_qst (hB9.trans (Below.mono hp8 hB9.size)) (by omega)
              generalize qst v8 gs (cN * 4) (decide (sq.num < 0)) false A5 A8' k5 c5 k8' c8' = W7 at *
              have HSB := Lib.hid (HSUB.out W7 E5 E6 e5 f5 e6 f6 hWQ7 hMQ7)
              obtain ⟨x0, x1, x2, x3, y0, y1, y2, y3⟩ := hBR7.four
              obtain ⟨u0, u1, u2, u3, -⟩ := hVb7.four
              have HRW7 := Lib.hid hRow7
              have HRT7 := Lib.hid hRT7
              have HB7 := Lib.hid hB7
              clear e7 hW5 hW8' hF5' hF8' hbk6 hni6 i0 i1' i2' i3 i4 i5 i6 i7 t0 t1 t2 t3 a0 a1 a2 a3 hVb hRow7 hRT7 hB7 hWQ7 hMQ7 hVb7 hBR9 hBL9 hRT9 hp8 hB9 HAD
              go_wp2_with fail
              refine HSB.out.mono ?_
              rintro e v9 ⟨G5, g5, h5, G6, g6, h6, rfl, hg5, hg6, hX5, hX6, hY5, hY6, hb9⟩
              have hBR8 := hBR7.below hb9 hBR7.lt
              have hBL8 := hBL7.below hb9 hBL7.lt
              obtain ⟨l0, l1, l2, l3, m0', m1', m2', m3'⟩ := hBR8.four
              have hfin : ShR w gl (gl + 1) gt gs m n p q (some ⟨b5, o5, none⟩) c2 ts rn nq G5 g5 h5 G6 g6 h6 (qst v9 (gl + 1) 0 (decide (nq.num < 0)) false G5 G6 g5 h5 g6 h6) := by
                refine ⟨below_qst (HB7.out.trans (hb9.mono HB7.out.size)) (by omega), hBL8.far4 (by omega), hBR8.put4, ?_, ?_, ?_⟩
                · exact WQ.put4 ⟨hg5, hg6, hX5, hX6⟩ hBR8 NoInt.four
                · exact (HRT7.out.below hb9).far4 (by omega) hBR8 NoInt.four
                · exact (HRW7.out.below hb9).far4 (by omega) hBR8 NoInt.four
              have e8 : (((v9.setCell ⟨gl + 1, 0, none⟩ (.bool (decide (nq.num < 0)))).setCell ⟨gl + 1, 1, none⟩ (.slice G5 g5 h5)).setCell ⟨gl + 1, 2, none⟩ (.bool false)).setCell ⟨gl + 1, 3, none⟩ (.slice G6 g6 h6) = qst v9 (gl + 1) 0 (decide (nq.num < 0)) false G5 G6 g5 h5 g6 h6 := rfl
              have HF := Lib.hid hfin
              have HE := Lib.hid e8
              have xw : IntKind.i64.wrap ((cN : Int) - 1) = (cN : Int) - 1 := IntWalk.i64_in _ (by omega)
              clear hfin e8 hBR8 hBL8 hb9 hX5 hX6 hY5 hY6 x0 x1 x2 x3 y0 y1 y2 y3 u0 u1 u2 u3 hBR7 hBL7 HSB
              go_wp2
              go_roundw
              case rel => exact ⟨j + 1, (cN : Int) - 1, nq, G5, g5, h5, G6, g6, h6, by omega, rfl, hcI.out, by rw [HR1E.out]; exact Lib.hid HR1.out.symm, by rw [HRN.out]; exact HF⟩
              case measure => simp [intOf]
          · have hVb : Blk ((((v6.setCell ⟨v5.heap.size, 0, none⟩ (.bool (decide (mq.num < 0)))).setCell ⟨v5.heap.size, 1, none⟩ (.slice E5 e5 f5)).setCell ⟨v5.heap.size, 2, none⟩ (.bool false)).setCell ⟨v5.heap.size, 3, none⟩ (.slice E6 e6 f6)) (v5.heap.size) 42 #[.bool (decide (mq.num < 0)), .slice E5 e5 f5, .bool false, .slice E6 e6 f6] := hN6.put4 (o := 0)
            have hVc : WQ ((((v6.setCell ⟨v5.heap.size, 0, none⟩ (.bool (decide (mq.num < 0)))).setCell ⟨v5.heap.size, 1, none⟩ (.slice E5 e5 f5)).setCell ⟨v5.heap.size, 2, none⟩ (.bool false)).setCell ⟨v5.heap.size, 3, none⟩ (.slice E6 e6 f6)) mq E5 e5 f5 E6 e6 f6 := WQ.put4 (o := 0) ⟨he5, he6, hV5, hV6⟩ hN6 NoInt.four
            have hVk : Kp wr ((((v6.setCell ⟨v5.heap.size, 0, none⟩ (.bool (decide (mq.num < 0)))).setCell ⟨v5.heap.size, 1, none⟩ (.slice E5 e5 f5)).setCell ⟨v5.heap.size, 2, none⟩ (.bool false)).setCell ⟨v5.heap.size, 3, none⟩ (.slice E6 e6 f6)) := kp_set4 hp6 (Below.size hp5) _ _ _ _
            have hg9 : gl + 1 < v5.heap.size := Nat.lt_of_lt_of_le hBR.lt (by first | exact Nat.le_refl _ | exact Below.size hp5 | exact Below.size hp6)
            generalize (((v6.setCell ⟨v5.heap.size, 0, none⟩ (.bool (decide (mq.num < 0)))).setCell ⟨v5.heap.size, 1, none⟩ (.slice E5 e5 f5)).setCell ⟨v5.heap.size, 2, none⟩ (.bool false)).setCell ⟨v5.heap.size, 3, none⟩ (.slice E6 e6 f6) = V at *
            generalize hgg : v5.heap.size = g9 at *
            have hBR9 := Kp.blk hVk hBR
            have hBL9 := Kp.blk hVk hBL
            have hlr : gl + 1 < wr.heap.size := hBR.lt
            have hgsr : gs < wr.heap.size := by omega
            have hRS9 := HRS.out.below hVk
            have hRT9 := HRT.out.below hVk
            have hB9 : Below w.heap.size w V := HBB.out.trans (Below.mono hVk HBB.out.size)
            have t0 := (Below.cell hVk (p := ⟨gs, cN * 4, none⟩) hgsr).trans s0
            have t1 := (Below.cell hVk (p := ⟨gs, cN * 4 + 1, none⟩) hgsr).trans s1
            have t2 := (Below.cell hVk (p := ⟨gs, cN * 4 + 2, none⟩) hgsr).trans s2
            have t3 := (Below.cell hVk (p := ⟨gs, cN * 4 + 3, none⟩) hgsr).trans s3
            obtain ⟨a0, a1, a2, a3, -⟩ := hVb.four
            have HAD := Lib.hid (fun W (hW : Kp V W) => HADD.out W E5 E6 e5 f5 e6 f6 (HWY.out.below (Below.trans hVk (Below.mono hW (Below.size hVk)))) (hVc.below hW))
            have hVc9 := Lib.hid hVc
            have hRS9 := Lib.hid hRS9
            have s9 := Kp.refl V
            rename_i hHeld
            clear hHeld
            clear FI HMIN HADD HS hp5 hp6 hW3 hW4 hk3 hk4 hVc s0 s1 s2 s3 sf0 sf1 sf2 sf3 cx
            (try clear z0 z1 z2 z3 z4 z5 z6 z7 hN6)
            (try clear hN5)
            clear hgg
            go_wp2_with fail
            go_region_with (first | (go_at_call 57; refine (HAD.out _ (Kp.drew s9)).mono ?_; rintro e v8 ⟨A5, k5, c5, A8', k8', c8', rfl, hk5, hk8', hW5, hW8', hF5', hF8', hb8⟩; have hp8 : Kp V v8 := Kp.trans (Kp.drew s9) hb8; obtain ⟨_, _, _, _, _, _, i0, i1', i2', i3, i4, i5, i6, i7, -⟩ := (hRS9.out.below hp8).cells hcl; clear hb8))
            all_goals
              have e7 : (((v8.setCell ⟨gs, cN * 4, none⟩ (.bool (decide (sq.num < 0)))).setCell ⟨gs, cN * 4 + 1, none⟩ (.slice A5 k5 c5)).setCell ⟨gs, cN * 4 + 2, none⟩ (.bool false)).setCell ⟨gs, cN * 4 + 3, none⟩ (.slice A8' k8' c8') = qst v8 gs (cN * 4) (decide (sq.num < 0)) false A5 A8' k5 c5 k8' c8' := rfl
              rw [e7]
              have hRow6 := hRS9.out.below hp8
              have hRow7 := hRow6.put hcl hk5 hk8' hW5 hW8'
              rw [← HCS.out] at hRow7
              obtain ⟨hlen6, cs6, hbk6, hni6, -⟩ := hRow6
              have hBR7 : Blk (qst v8 gs (cN * 4) (decide (sq.num < 0)) false A5 A8' k5 c5 k8' c8') (gl + 1) _ _ := (Kp.blk hp8 hBR9).far4 (by omega)
              have hBL7 : Blk (qst v8 gs (cN * 4) (decide (sq.num < 0)) false A5 A8' k5 c5 k8' c8') gl _ _ := (Kp.blk hp8 hBL9).far4 (by omega)
              have hVb7 : Blk (qst v8 gs (cN * 4) (decide (sq.num < 0)) false A5 A8' k5 c5 k8' c8') g9 _ _ := (Kp.blk hp8 hVb).far4 (by omega)
              have hRT7 := (hRT9.below hp8).far4 (o := cN * 4) (a := decide (sq.num < 0)) (b := false) (A := A5) (A' := A8') (k := k5) (c := c5) (k' := k8') (c' := c8') (by omega) hbk6 hni6
              have hWQ7 := (WQ.below (WQ.below HWQ.out hVk) hp8).put4 (o := cN * 4) (a := decide (sq.num < 0)) (b := false) (B := A5) (B' := A8') (j := k5) (d := c5) (j' := k8') (d' := c8') hbk6 hni6
              have hMQ7 := (hVc9.out.below hp8).put4 (o := cN * 4) (a := decide (sq.num < 0)) (b := false) (B := A5) (B' := A8') (j := k5) (d := c5) (j' := k8') (d' := c8') hbk6 hni6
              have hB7 : Below w.heap.size w (qst v8 gs (cN * 4) (decide (sq.num < 0)) false A5 A8' k5 c5 k8' c8') := below_qst (hB9.trans (Below.mono hp8 hB9.size)) (by omega)
              generalize qst v8 gs (cN * 4) (decide (sq.num < 0)) false A5 A8' k5 c5 k8' c8' = W7 at *
              have HSB := Lib.hid (HSUB.out W7 E5 E6 e5 f5 e6 f6 hWQ7 hMQ7)
              obtain ⟨x0, x1, x2, x3, y0, y1, y2, y3⟩ := hBR7.four
              obtain ⟨u0, u1, u2, u3, -⟩ := hVb7.four
              have HRW7 := Lib.hid hRow7
              have HRT7 := Lib.hid hRT7
              have HB7 := Lib.hid hB7
              clear e7 hW5 hW8' hF5' hF8' hbk6 hni6 i0 i1' i2' i3 i4 i5 i6 i7 t0 t1 t2 t3 a0 a1 a2 a3 hVb hRow7 hRT7 hB7 hWQ7 hMQ7 hVb7 hBR9 hBL9 hRT9 hp8 hB9 HAD
              go_wp2_with fail
              refine HSB.out.mono ?_
              rintro e v9 ⟨G5, g5, h5, G6, g6, h6, rfl, hg5, hg6, hX5, hX6, hY5, hY6, hb9⟩
              have hBR8 := hBR7.below hb9 hBR7.lt
              have hBL8 := hBL7.below hb9 hBL7.lt
              obtain ⟨l0, l1, l2, l3, m0', m1', m2', m3'⟩ := hBR8.four
              have hfin : ShR w gl (gl + 1) gt gs m n p q (some ⟨b5, o5, none⟩) c2 ts rn nq G5 g5 h5 G6 g6 h6 (qst v9 (gl + 1) 0 (decide (nq.num < 0)) false G5 G6 g5 h5 g6 h6) := by
                refine ⟨below_qst (HB7.out.trans (hb9.mono HB7.out.size)) (by omega), hBL8.far4 (by omega), hBR8.put4, ?_, ?_, ?_⟩
                · exact WQ.put4 ⟨hg5, hg6, hX5, hX6⟩ hBR8 NoInt.four
                · exact (HRT7.out.below hb9).far4 (by omega) hBR8 NoInt.four
                · exact (HRW7.out.below hb9).far4 (by omega) hBR8 NoInt.four
              have e8 : (((v9.setCell ⟨gl + 1, 0, none⟩ (.bool (decide (nq.num < 0)))).setCell ⟨gl + 1, 1, none⟩ (.slice G5 g5 h5)).setCell ⟨gl + 1, 2, none⟩ (.bool false)).setCell ⟨gl + 1, 3, none⟩ (.slice G6 g6 h6) = qst v9 (gl + 1) 0 (decide (nq.num < 0)) false G5 G6 g5 h5 g6 h6 := rfl
              have HF := Lib.hid hfin
              have HE := Lib.hid e8
              have xw : IntKind.i64.wrap ((cN : Int) - 1) = (cN : Int) - 1 := IntWalk.i64_in _ (by omega)
              clear hfin e8 hBR8 hBL8 hb9 hX5 hX6 hY5 hY6 x0 x1 x2 x3 y0 y1 y2 y3 u0 u1 u2 u3 hBR7 hBL7 HSB
              go_wp2
              go_roundw
              case rel => exact ⟨j + 1, (cN : Int) - 1, nq, G5, g5, h5, G6, g6, h6, by omega, rfl, hcI.out, by rw [HR1E.out]; exact Lib.hid HR1.out.symm, by rw [HRN.out]; exact HF⟩
              case measure => simp [intOf]
          · have hVb : Blk ((((v6.setCell ⟨wr.heap.size, 0, none⟩ (.bool (decide (mq.num < 0)))).setCell ⟨wr.heap.size, 1, none⟩ (.slice E5 e5 f5)).setCell ⟨wr.heap.size, 2, none⟩ (.bool false)).setCell ⟨wr.heap.size, 3, none⟩ (.slice E6 e6 f6)) (wr.heap.size) 42 #[.bool (decide (mq.num < 0)), .slice E5 e5 f5, .bool false, .slice E6 e6 f6] := hN6.put4 (o := 0)
            have hVc : WQ ((((v6.setCell ⟨wr.heap.size, 0, none⟩ (.bool (decide (mq.num < 0)))).setCell ⟨wr.heap.size, 1, none⟩ (.slice E5 e5 f5)).setCell ⟨wr.heap.size, 2, none⟩ (.bool false)).setCell ⟨wr.heap.size, 3, none⟩ (.slice E6 e6 f6)) mq E5 e5 f5 E6 e6 f6 := WQ.put4 (o := 0) ⟨he5, he6, hV5, hV6⟩ hN6 NoInt.four
            have hVk : Kp wr ((((v6.setCell ⟨wr.heap.size, 0, none⟩ (.bool (decide (mq.num < 0)))).setCell ⟨wr.heap.size, 1, none⟩ (.slice E5 e5 f5)).setCell ⟨wr.heap.size, 2, none⟩ (.bool false)).setCell ⟨wr.heap.size, 3, none⟩ (.slice E6 e6 f6)) := kp_set4 hp6 (Nat.le_refl _) _ _ _ _
            have hg9 : gl + 1 < wr.heap.size := Nat.lt_of_lt_of_le hBR.lt (by first | exact Nat.le_refl _ | exact Below.size hp5 | exact Below.size hp6)
            generalize (((v6.setCell ⟨wr.heap.size, 0, none⟩ (.bool (decide (mq.num < 0)))).setCell ⟨wr.heap.size, 1, none⟩ (.slice E5 e5 f5)).setCell ⟨wr.heap.size, 2, none⟩ (.bool false)).setCell ⟨wr.heap.size, 3, none⟩ (.slice E6 e6 f6) = V at *
            generalize hgg : wr.heap.size = g9 at *
            have hBR9 := Kp.blk hVk hBR
            have hBL9 := Kp.blk hVk hBL
            have hlr : gl + 1 < wr.heap.size := hBR.lt
            have hgsr : gs < wr.heap.size := by omega
            have hRS9 := HRS.out.below hVk
            have hRT9 := HRT.out.below hVk
            have hB9 : Below w.heap.size w V := HBB.out.trans (Below.mono hVk HBB.out.size)
            have t0 := (Below.cell hVk (p := ⟨gs, cN * 4, none⟩) hgsr).trans s0
            have t1 := (Below.cell hVk (p := ⟨gs, cN * 4 + 1, none⟩) hgsr).trans s1
            have t2 := (Below.cell hVk (p := ⟨gs, cN * 4 + 2, none⟩) hgsr).trans s2
            have t3 := (Below.cell hVk (p := ⟨gs, cN * 4 + 3, none⟩) hgsr).trans s3
            obtain ⟨a0, a1, a2, a3, -⟩ := hVb.four
            have HAD := Lib.hid (fun W (hW : Kp V W) => HADD.out W E5 E6 e5 f5 e6 f6 (HWY.out.below (Below.trans hVk (Below.mono hW (Below.size hVk)))) (hVc.below hW))
            have hVc9 := Lib.hid hVc
            have hRS9 := Lib.hid hRS9
            have s9 := Kp.refl V
            rename_i hHeld
            clear hHeld
            clear FI HMIN HADD HS hp5 hp6 hW3 hW4 hk3 hk4 hVc s0 s1 s2 s3 sf0 sf1 sf2 sf3 cx
            (try clear z0 z1 z2 z3 z4 z5 z6 z7 hN6)
            (try clear hN5)
            clear hgg
            go_wp2_with fail
            go_region_with (first | (go_at_call 57; refine (HAD.out _ (Kp.drew s9)).mono ?_; rintro e v8 ⟨A5, k5, c5, A8', k8', c8', rfl, hk5, hk8', hW5, hW8', hF5', hF8', hb8⟩; have hp8 : Kp V v8 := Kp.trans (Kp.drew s9) hb8; obtain ⟨_, _, _, _, _, _, i0, i1', i2', i3, i4, i5, i6, i7, -⟩ := (hRS9.out.below hp8).cells hcl; clear hb8))
            all_goals
              have e7 : (((v8.setCell ⟨gs, cN * 4, none⟩ (.bool (decide (sq.num < 0)))).setCell ⟨gs, cN * 4 + 1, none⟩ (.slice A5 k5 c5)).setCell ⟨gs, cN * 4 + 2, none⟩ (.bool false)).setCell ⟨gs, cN * 4 + 3, none⟩ (.slice A8' k8' c8') = qst v8 gs (cN * 4) (decide (sq.num < 0)) false A5 A8' k5 c5 k8' c8' := rfl
              rw [e7]
              have hRow6 := hRS9.out.below hp8
              have hRow7 := hRow6.put hcl hk5 hk8' hW5 hW8'
              rw [← HCS.out] at hRow7
              obtain ⟨hlen6, cs6, hbk6, hni6, -⟩ := hRow6
              have hBR7 : Blk (qst v8 gs (cN * 4) (decide (sq.num < 0)) false A5 A8' k5 c5 k8' c8') (gl + 1) _ _ := (Kp.blk hp8 hBR9).far4 (by omega)
              have hBL7 : Blk (qst v8 gs (cN * 4) (decide (sq.num < 0)) false A5 A8' k5 c5 k8' c8') gl _ _ := (Kp.blk hp8 hBL9).far4 (by omega)
              have hVb7 : Blk (qst v8 gs (cN * 4) (decide (sq.num < 0)) false A5 A8' k5 c5 k8' c8') g9 _ _ := (Kp.blk hp8 hVb).far4 (by omega)
              have hRT7 := (hRT9.below hp8).far4 (o := cN * 4) (a := decide (sq.num < 0)) (b := false) (A := A5) (A' := A8') (k := k5) (c := c5) (k' := k8') (c' := c8') (by omega) hbk6 hni6
              have hWQ7 := (WQ.below (WQ.below HWQ.out hVk) hp8).put4 (o := cN * 4) (a := decide (sq.num < 0)) (b := false) (B := A5) (B' := A8') (j := k5) (d := c5) (j' := k8') (d' := c8') hbk6 hni6
              have hMQ7 := (hVc9.out.below hp8).put4 (o := cN * 4) (a := decide (sq.num < 0)) (b := false) (B := A5) (B' := A8') (j := k5) (d := c5) (j' := k8') (d' := c8') hbk6 hni6
              have hB7 : Below w.heap.size w (qst v8 gs (cN * 4) (decide (sq.num < 0)) false A5 A8' k5 c5 k8' c8') := below_qst (hB9.trans (Below.mono hp8 hB9.size)) (by omega)
              generalize qst v8 gs (cN * 4) (decide (sq.num < 0)) false A5 A8' k5 c5 k8' c8' = W7 at *
              have HSB := Lib.hid (HSUB.out W7 E5 E6 e5 f5 e6 f6 hWQ7 hMQ7)
              obtain ⟨x0, x1, x2, x3, y0, y1, y2, y3⟩ := hBR7.four
              obtain ⟨u0, u1, u2, u3, -⟩ := hVb7.four
              have HRW7 := Lib.hid hRow7
              have HRT7 := Lib.hid hRT7
              have HB7 := Lib.hid hB7
              clear e7 hW5 hW8' hF5' hF8' hbk6 hni6 i0 i1' i2' i3 i4 i5 i6 i7 t0 t1 t2 t3 a0 a1 a2 a3 hVb hRow7 hRT7 hB7 hWQ7 hMQ7 hVb7 hBR9 hBL9 hRT9 hp8 hB9 HAD
              go_wp2_with fail
              refine HSB.out.mono ?_
              rintro e v9 ⟨G5, g5, h5, G6, g6, h6, rfl, hg5, hg6, hX5, hX6, hY5, hY6, hb9⟩
              have hBR8 := hBR7.below hb9 hBR7.lt
              have hBL8 := hBL7.below hb9 hBL7.lt
              obtain ⟨l0, l1, l2, l3, m0', m1', m2', m3'⟩ := hBR8.four
              have hfin : ShR w gl (gl + 1) gt gs m n p q (some ⟨b5, o5, none⟩) c2 ts rn nq G5 g5 h5 G6 g6 h6 (qst v9 (gl + 1) 0 (decide (nq.num < 0)) false G5 G6 g5 h5 g6 h6) := by
                refine ⟨below_qst (HB7.out.trans (hb9.mono HB7.out.size)) (by omega), hBL8.far4 (by omega), hBR8.put4, ?_, ?_, ?_⟩
                · exact WQ.put4 ⟨hg5, hg6, hX5, hX6⟩ hBR8 NoInt.four
                · exact (HRT7.out.below hb9).far4 (by omega) hBR8 NoInt.four
                · exact (HRW7.out.below hb9).far4 (by omega) hBR8 NoInt.four
              have e8 : (((v9.setCell ⟨gl + 1, 0, none⟩ (.bool (decide (nq.num < 0)))).setCell ⟨gl + 1, 1, none⟩ (.slice G5 g5 h5)).setCell ⟨gl + 1, 2, none⟩ (.bool false)).setCell ⟨gl + 1, 3, none⟩ (.slice G6 g6 h6) = qst v9 (gl + 1) 0 (decide (nq.num < 0)) false G5 G6 g5 h5 g6 h6 := rfl
              have HF := Lib.hid hfin
              have HE := Lib.hid e8
              have xw : IntKind.i64.wrap ((cN : Int) - 1) = (cN : Int) - 1 := IntWalk.i64_in _ (by omega)
              clear hfin e8 hBR8 hBL8 hb9 hX5 hX6 hY5 hY6 x0 x1 x2 x3 y0 y1 y2 y3 u0 u1 u2 u3 hBR7 hBL7 HSB
              go_wp2
              go_roundw
              case rel => exact ⟨j + 1, (cN : Int) - 1, nq, G5, g5, h5, G6, g6, h6, by omega, rfl, hcI.out, by rw [HR1E.out]; exact Lib.hid HR1.out.symm, by rw [HRN.out]; exact HF⟩
              case measure => simp [intOf]
        · obtain rfl : j = n := by omega
          have d0 : decide ((0 : Int) ≤ ci) = false := by have := hci.out; simp; omega
          obtain ⟨hB, hBL, hBR, hWQ, hRT, hRS⟩ := hR.out
          have HF : Hid (ShO w gt gs m j ts yn wr) := Lib.hid ⟨hB, hRT, by rw [HSA.out]; exact hRS⟩
          clear hB hBL hBR hWQ hRT hRS hR
          go_wp2
          go_roundw
          case rel => exact ⟨i + 1, by omega, by go_num, by rw [HYN.out]; exact HF.out⟩
          case measure => simp [intOf]; omega
    · obtain rfl : i = m := by omega
      obtain ⟨hB, hRT, hRS⟩ := hR.out
      have HFN := Lib.hid (And.intro hRS hB)
      clear hR hB hRT hRS
      go_wp2
      go_ret2
      exact ⟨gs, rfl, HFN.out.1, hgs, HFN.out.2⟩

end Go.Proofs.YtnjpojpfiijlfaaGreat

namespace Go.Proofs.YtnjpojpfiijlfaaGreat
set_option linter.unusedVariables false
set_option linter.unusedSimpArgs false
open Go.RowKit
open Wd

theorem prodI_bd2 {l : List (Int × Int)} {z : Int} (hok : OkQ l) (hpr : ∀ s ∈ l, -1000000 ≤ s.2 ∧ s.2 ≤ 1000000) (h0 : 0 ≤ z) {k : Nat} (hk : k < l.length) : (partI l z k * (l[k]?.getD (0, 0)).2).natAbs ≤ 16000000000000 := by
  have hr : ∀ k, k ≤ l.length → 0 ≤ restI l z k := by
    intro k
    induction k with
    | zero => intro _; exact h0
    | succ k ih =>
      intro hk
      have := ih (by omega)
      rw [restI]
      omega
  have ih := hr k (by omega)
  have hb := hok _ (getD_mem (d := (0, 0)) hk)
  have hp := hpr _ (getD_mem (d := (0, 0)) hk)
  rw [Int.natAbs_mul]
  have h2 : (partI l z k).natAbs ≤ 16000000 := by unfold partI; omega
  have h3 : (l[k]?.getD (0, 0)).2.natAbs ≤ 1000000 := by omega
  exact Nat.le_trans (Nat.mul_le_mul h2 h3) (by omega)
theorem costI_bd2 {l : List (Int × Int)} {z : Int} (hok : OkQ l) (hpr : ∀ s ∈ l, -1000000 ≤ s.2 ∧ s.2 ≤ 1000000) (h0 : 0 ≤ z) : ∀ k, k ≤ l.length → (costI l z k).natAbs ≤ 16000000000000 * k
  | 0, _ => by simp [costI]
  | k + 1, hk => by
    have ih := costI_bd2 hok hpr h0 k (by omega)
    have hp := prodI_bd2 hok hpr h0 (k := k) (by omega)
    rw [costI]
    omega
theorem VL.prI {up : Bool} {n : Nat} {lv : List St.Lv} (h : VL up n lv) : ∀ s ∈ lvQ lv, -1000000 ≤ s.2 ∧ s.2 ≤ 1000000 := fun s hs => by
  obtain ⟨x, hx, rfl⟩ := List.mem_map.1 hs
  exact h.price x hx
theorem costOK_stack {up : Bool} {n : Nat} {lv : List St.Lv} {z : Int} (hv : VL up n lv) (h0 : 0 ≤ z) : CostOK 4611686018427387904 2147483648 2 1152921504606846976 2 (lvQ lv) (z : Rat) := by
  have hl := hv.len
  have hl2 := lvQ_len lv
  refine ⟨by omega, by omega, by omega, by omega, by omega, by omega, by omega, by omega, by omega, by omega, by omega, by omega, fun k hk => ?_, fun k hk => ?_⟩
  · have hb := costI_bd2 hv.okQ hv.prI h0 k hk
    rw [costAt_whole, Rat.num_intCast, Rat.den_intCast]
    omega
  · have hb := prodI_bd2 hv.okQ hv.prI h0 hk
    rw [prod_whole, Rat.num_intCast, Rat.den_intCast]
    omega
theorem kcost_whole (up : Bool) (A : Option Addr) (m n c : Nat) (lv : List St.Lv) (z : Int) (aA aA' : Option Addr) (ak ac ak' ac' : Nat) (w : World) (h : LvAt w A m n lv) (hv : VL up n lv) (hq : WQ w (z : Rat) aA ak ac aA' ak' ac') (h0 : 0 ≤ z) (h1 : z ≤ totI lv) :
    Calls Tryz.prog 40 #[.slice A m c, .agg #[.bool (decide (((z : Int) : Rat).num < 0)), .slice aA ak ac, .bool false, .slice aA' ak' ac']] w (CstPost w ((costI (lvQ lv) z m : Int) : Rat)) := by
  have hz := (tot_bd lv hv.qty).2
  have hl := hv.len
  have hq2 : QAt 2147483648 2 w (decide (((z : Int) : Rat).num < 0)) aA ak ac false aA' ak' ac' (z : Rat) :=
    qat_len wok_small (by omega) (by omega) hq.1 hq.2.1 hq.2.2.1 hq.2.2.2 (by rw [Rat.num_intCast]; omega) (by rw [Rat.den_intCast]; omega)
  have hT := kcost_ok 4611686018427387904 2147483648 2 1152921504606846976 2 wok_small (by omega) up A m n c lv _ false aA aA' ak ac ak' ac' (z : Rat) w h hq2 hv (by exact_mod_cast h0) (by exact_mod_cast h1) (costOK_stack hv h0)
  rw [costAt_whole] at hT
  exact hT

end Go.Proofs.YtnjpojpfiijlfaaGreat

namespace Go.Proofs.YtnjpojpfiijlfaaGreat
set_option linter.unusedVariables false
set_option linter.unusedSimpArgs false
open Go.RowKit
open Wd

set_option maxRecDepth 100000 in
set_option maxHeartbeats 16000000 in
theorem fill_over (M Nn Nd : Nat) (HO : WOK M) (hM1 : 2 * (Nn * Nd) ≤ M) (hM2 : Nd * Nd ≤ M) (hnm : Nn ≤ M) (hdm : Nd ≤ M) (hN : 768000000 < Nn) (hN2 : Nn ≤ 4611686018427387904) (hD : 1 < Nd)
    (up : Bool) (A : Option Addr) (n nn c : Nat) (lv : List St.Lv) (an an' : Bool) (aA aA' : Option Addr) (ak ac ak' ac' : Nat) (q : Rat) (w : World) (h : LvAt w A n nn lv) (hq : QAt Nn Nd w an aA ak ac an' aA' ak' ac' q)
    (hv : VL up nn lv) (h0 : 0 ≤ q) (h1 : ((totI lv : Int) : Rat) < q) :
    Calls Tryz.prog 97 #[.slice A n c, .agg #[.bool an, .slice aA ak ac, .bool an', .slice aA' ak' ac']] w
      (fun e w' => e = .returned (.tuple #[.slice none 0 0, .int .i64 1]) ∧ Below w.heap.size w w') := by
  have hln := h.1
  have hn : n ≤ 48 := by have := hv.len; omega
  have hbd := tot_bd lv hv.qty
  have hok := hv.okQ
  have hN3 : 16000000 < Nn := by omega
  have CC := fun W (hW : Below w.heap.size w W) => check_ok up A n nn c lv W (h.below hW) hv
  have SM := fun W (hW : Below w.heap.size w W) => total_ok up A n nn c lv W (h.below hW) hv
  have SG := fun W (hW : Below w.heap.size w W) => qsign_any an an' aA aA' ak ac ak' ac' q W (hq.below hW)
  have hsg : decide (sgnQ q < 0) = false := by
    have := Rat.num_nonneg.2 h0
    unfold sgnQ cmpI
    split
    · omega
    · split <;> simp
  have hcm : decide (0 < cmpQ q ((totI lv : Int) : Rat)) = true := by
    unfold cmpQ
    rw [if_neg (by grind), if_pos h1]
    simp
  have FI := fun W => qfromInt64_any (totI lv) W (by omega) (by omega)
  have hCM : ∀ W (hW : Below w.heap.size w W) (B B' : Option Addr) (k d k' d' : Nat), k ≤ d → k' ≤ d' → Wat W B k (digs ((totI lv : Int) : Rat).num.natAbs) → Wat W B' k' (denW ((totI lv : Int) : Rat).den) →
      Calls Tryz.prog 55 #[.agg #[.bool an, .slice aA ak ac, .bool an', .slice aA' ak' ac'], .agg #[.bool (decide (((totI lv : Int) : Rat).num < 0)), .slice B k d, .bool false, .slice B' k' d']] W fun e w' => e = .returned (.int .i64 (cmpQ q ((totI lv : Int) : Rat))) ∧ Below W.heap.size W w' := by
    intro W hW B B' k d k' d' hk hk' h5 h6
    refine qcmp_any (Nn := Nn) (Nd := Nd) an an' _ false aA aA' B B' ak ac ak' ac' k d k' d' q _ W (hq.below hW) (qat_canon hk hk' h5 h6 ?_ ?_ ?_ hD)
    · rw [← h5.1, show ((totI lv : Int) : Rat).num = totI lv from rfl]
      exact Nat.le_trans (len_le_two (by omega)) (by omega)
    · rw [← h6.1, show ((totI lv : Int) : Rat).den = 1 from rfl]; simp [denW]
    · show (totI lv).natAbs < Nn; omega
  have HLN : Hid ((lvQ lv).length = n) := Lib.hid (by rw [lvQ_len]; exact hln)
  generalize sgnQ q = sq at *
  generalize cmpQ q ((totI lv : Int) : Rat) = cq at *
  generalize hqr : ((totI lv : Int) : Rat) = qs at *
  have hs1 : 0 ≤ totI lv := by omega
  have hs2 : totI lv ≤ 768000000 := by omega
  generalize totI lv = sl at *
  have CC := Lib.hid CC
  have SM := Lib.hid SM
  have SG := Lib.hid SG
  have FI := Lib.hid FI
  have HCM := Lib.hid hCM
  have HQ := Lib.hid hq
  have HST := Lib.hid h
  generalize hlq : lvQ lv = l at *
  have HLQ := Lib.hid hlq
  clear hlq hln
  clear hCM hbd hqr h h1 hv hq
  go_enter Tryz.func97, Tryz.ntmps97
  go_wp2_with fail
  have hB0 := Blk.new w 42 #[.bool an, .slice aA ak ac, .bool an', .slice aA' ak' ac']
  have hBW : Below w.heap.size w (w.alloc (.cells #[.bool an, .slice aA ak ac, .bool an', .slice aA' ak' ac'] 42)) := (Below.refl _ _).alloc (Nat.le_refl _) _
  have hsz : (w.alloc (.cells #[.bool an, .slice aA ak ac, .bool an', .slice aA' ak' ac'] 42)).heap.size = w.heap.size + 1 := by simp
  generalize w.alloc (.cells #[.bool an, .slice aA ak ac, .bool an', .slice aA' ak' ac'] 42) = W at *
  have HSZ := Lib.hid hsz
  clear hsz
  refine (CC.out W hBW).mono ?_
  rintro e w1 ⟨rfl, hb1⟩
  have hB0 := hB0.below hb1 hB0.lt
  have hBW : Below w.heap.size w w1 := hBW.trans (hb1.mono hBW.size)
  clear hb1 HSZ CC
  have hBK : ∀ w', Kp w1 w' → Below w.heap.size w w' := fun w' hk => hBW.trans (Below.mono hk hBW.size)
  have HBK := Lib.hid hBK
  clear hBK
  have s5 := Kp.refl w1
  go_wp2_with fail
  have hS : ∀ w', Kp w1 w' → (w'.cell? ⟨w.heap.size, 0, none⟩ = some (.bool an) ∧ w'.cell? ⟨w.heap.size, 1, none⟩ = some (.slice aA ak ac) ∧ w'.cell? ⟨w.heap.size, 2, none⟩ = some (.bool an') ∧ w'.cell? ⟨w.heap.size, 3, none⟩ = some (.slice aA' ak' ac')) ∧ Kp w1 w' := fun w' hk => ⟨⟨(hk.blk hB0).cell 0, (hk.blk hB0).cell 1, (hk.blk hB0).cell 2, (hk.blk hB0).cell 3⟩, hk⟩
  have HS := Lib.hid hS
  clear hS
  go_region_held3 (fun w' => (w'.cell? ⟨w.heap.size, 0, none⟩ = some (.bool an) ∧ w'.cell? ⟨w.heap.size, 1, none⟩ = some (.slice aA ak ac) ∧ w'.cell? ⟨w.heap.size, 2, none⟩ = some (.bool an') ∧ w'.cell? ⟨w.heap.size, 3, none⟩ = some (.slice aA' ak' ac')) ∧ Kp w1 w')
    (first | (with_reducible refine HS.out _ ?_; with_reducible assumption) | (with_reducible refine HS.out _ (Kp.drew ?_); with_reducible assumption) | (with_reducible refine' HS.out _ (Kp.drew (And.right ?_)); rotate_left; with_reducible assumption))
    (first
      | (go_at_call 52; have hk := And.right ‹_ ∧ Kp w1 _›; refine (SG.out _ (HBK.out _ hk)).mono ?_; rintro e v1 ⟨rfl, hb1⟩; have hr1 := hk.trans hb1; clear hb1)
      | (go_at_call 37; have hk := And.right ‹_ ∧ Kp w1 _›; refine (SM.out _ (HBK.out _ hk)).mono ?_; rintro e v2 ⟨rfl, hb2⟩; have hr2 := hk.trans hb2; clear hb2)
      | (go_at_call 50; have hk := And.right ‹_ ∧ Kp w1 _›; refine (FI.out _).mono ?_; rintro e v3 ⟨A3, k3, c3, A4, k4, c4, rfl, hk3, hk4, hW3, hW4, hF3, hF4, hb3⟩; have hr3 := hk.trans hb3; clear hb3)
      | (go_at_call 55; have hk := And.right ‹_ ∧ Kp w1 _›; refine (HCM.out _ (HBK.out _ hk) A3 A4 k3 c3 k4 c4 hk3 hk4 hW3 hW4).mono ?_; rintro e v4 ⟨rfl, hb4⟩; have hr4 := hk.trans hb4; clear hb4))
  rename_i hHeld
  have hB4 : Below w.heap.size w v4 := HBK.out _ hr4
  have HF := Lib.hid hB4
  clear hB4 hHeld hr1 hr2 hr3 hr4 hW3 hW4 hF3 hF4 HCM FI SG SM HBK
  go_wp2
  go_ret2
  exact ⟨rfl, HF.out⟩

set_option maxRecDepth 100000 in
set_option maxHeartbeats 4000000 in
theorem share_over (up : Bool) (A : Option Addr) (m n c : Nat) (lv : List St.Lv) (z : Int) (aA aA' : Option Addr) (ak ac ak' ac' : Nat) (w : World) (h : LvAt w A m n lv) (hv : VL up n lv) (hq : WQ w (z : Rat) aA ak ac aA' ak' ac') (h0 : 0 ≤ z) (h1 : totI lv < z) (h2 : z ≤ 1000000000000) :
    Calls Tryz.prog 39 #[.slice A m c, .agg #[.bool (decide (((z : Int) : Rat).num < 0)), .slice aA ak ac, .bool false, .slice aA' ak' ac']] w fun e w' => e = .returned (.tuple #[.slice none 0 0, .int .i64 1]) ∧ Below w.heap.size w w' := by
  have HF0 := Lib.hid (fun W (hW : Below w.heap.size w W) => fill_over 4611686018427387904 1152921504606846976 2 wok_small (by omega) (by omega) (by omega) (by omega) (by omega) (by omega) (by omega) up A m n c lv _ false aA aA' ak ac ak' ac' (z : Rat) W (h.below hW) ((hq.below hW).at (by rw [Rat.num_intCast]; omega) (by rw [Rat.den_intCast]; omega)) hv (by exact_mod_cast h0) (by exact_mod_cast h1))
  generalize ((z : Int) : Rat) = zq at *
  clear h hv hq h0 h1 h2
  go_enter Tryz.func39, Tryz.ntmps39
  go_wp2_with fail
  have hB0 := Blk.new w 42 #[.bool (decide (zq.num < 0)), .slice aA ak ac, .bool false, .slice aA' ak' ac']
  have hBW : Below w.heap.size w (w.alloc (.cells #[.bool (decide (zq.num < 0)), .slice aA ak ac, .bool false, .slice aA' ak' ac'] 42)) := (Below.refl _ _).alloc (Nat.le_refl _) _
  have hsz : (w.alloc (.cells #[.bool (decide (zq.num < 0)), .slice aA ak ac, .bool false, .slice aA' ak' ac'] 42)).heap.size = w.heap.size + 1 := by simp
  generalize w.alloc (.cells #[.bool (decide (zq.num < 0)), .slice aA ak ac, .bool false, .slice aA' ak' ac'] 42) = W at *
  have HSZ := Lib.hid hsz
  clear hsz
  refine (HF0.out W hBW).mono ?_
  rintro e w1 ⟨rfl, hb1⟩
  have HB1 := Lib.hid (hBW.trans (hb1.mono hBW.size))
  clear hb1 hBW
  go_wp2
  go_ret2
  exact ⟨rfl, HB1.out⟩

set_option maxRecDepth 100000 in
set_option maxHeartbeats 4000000 in
theorem share_nil (up : Bool) (A : Option Addr) (n c : Nat) (aA aA' : Option Addr) (ak ac ak' ac' : Nat) (w : World) (hn : n ≤ 16) (hq : WQ w ((0 : Int) : Rat) aA ak ac aA' ak' ac') :
    Calls Tryz.prog 39 #[.slice A 0 c, .agg #[.bool (decide (((0 : Int) : Rat).num < 0)), .slice aA ak ac, .bool false, .slice aA' ak' ac']] w fun e w' => e = .returned (.tuple #[.slice none 0 0, .int .i64 0]) ∧ Below w.heap.size w w' := by
  have hl : LvAt w A 0 n [] := ⟨rfl, fun h => absurd rfl h⟩
  have hv : VL up n [] := ⟨by simp, by simp, hn, by simp, by simp, by simp, by simp⟩
  have HF0 := Lib.hid (fun W (hW : Below w.heap.size w W) => fill_ok 4611686018427387904 1152921504606846976 2 wok_small (by omega) (by omega) (by omega) (by omega) (by omega) (by omega) (by omega) up A 0 n c [] _ false aA aA' ak ac ak' ac' ((0 : Int) : Rat) W (hl.below hW) ((hq.below hW).at (by rw [Rat.num_intCast]; omega) (by rw [Rat.den_intCast]; omega)) hv (by exact_mod_cast Int.le_refl 0) (Rat.le_refl))
  generalize ((0 : Int) : Rat) = zq at *
  clear hl hv hq
  go_enter Tryz.func39, Tryz.ntmps39
  go_wp2_with fail
  have hB0 := Blk.new w 42 #[.bool (decide (zq.num < 0)), .slice aA ak ac, .bool false, .slice aA' ak' ac']
  have hBW : Below w.heap.size w (w.alloc (.cells #[.bool (decide (zq.num < 0)), .slice aA ak ac, .bool false, .slice aA' ak' ac'] 42)) := (Below.refl _ _).alloc (Nat.le_refl _) _
  have hsz : (w.alloc (.cells #[.bool (decide (zq.num < 0)), .slice aA ak ac, .bool false, .slice aA' ak' ac'] 42)).heap.size = w.heap.size + 1 := by simp
  generalize w.alloc (.cells #[.bool (decide (zq.num < 0)), .slice aA ak ac, .bool false, .slice aA' ak' ac'] 42) = W at *
  have HSZ := Lib.hid hsz
  clear hsz
  refine (HF0.out W hBW).mono ?_
  rintro e w1 ⟨gt, ts, rfl, -, -, -, hb1⟩
  have HB1 := Lib.hid (hBW.trans (hb1.mono hBW.size))
  clear hb1 hBW
  go_wp2
  go_ret2
  exact ⟨rfl, HB1.out⟩

end Go.Proofs.YtnjpojpfiijlfaaGreat
