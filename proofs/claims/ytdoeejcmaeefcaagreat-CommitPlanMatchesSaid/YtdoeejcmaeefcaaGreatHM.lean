/-
cost of package energy. Allocate of package energy where it refuses; LeastCost. Cost of package energy. No statement of the seat is proved here; no conditions beyond those of each theorem.
-/
import Derived.Test.YtdoeejcmaeefcaaGreatHI
import Derived.Test.YtdoeejcmaeefcaaGreatHK
import Derived.Test.YtdoeejcmaeefcaaGreatHJ
import Derived.Test.YtdoeejcmaeefcaaGreatHL
namespace Go.Proofs.YtdoeejcmaeefcaaGreat
set_option linter.unusedVariables false
set_option linter.unusedSimpArgs false
open Go.RowKit
open Wd

/-- The slice value reads as the integers xs. -/
def IsAt (w : World) (A : Option Addr) (n : Nat) (xs : List Int) : Prop :=
  xs.length = n ∧ (n ≠ 0 → ∃ b o, A = some ⟨b, o, none⟩ ∧ b < w.heap.size ∧ ∀ j, j < n → w.cell? ⟨b, o + j, none⟩ = some (.int .i64 (xs[j]?.getD 0)))
theorem IsAt.below {w w' : World} {A : Option Addr} {n : Nat} {xs : List Int} (h : IsAt w A n xs) (hb : Below w.heap.size w w') : IsAt w' A n xs := by
  refine ⟨h.1, fun hn => ?_⟩
  obtain ⟨b, o, rfl, hlt, hc⟩ := h.2 hn
  exact ⟨b, o, rfl, Nat.lt_of_lt_of_le hlt hb.size, fun j hj => (hb.cell hlt).trans (hc j hj)⟩

/-- The cost of the first k outputs. -/
def ecI (us : List Un) (xs : List Int) : Nat → Int
  | 0 => 0
  | k + 1 => ecI us xs k + En.cst (us[k]?.getD U0).st (xs[k]?.getD 0)
/-- The outputs lie within the units' curves. -/
def InC (us : List Un) (xs : List Int) : Prop := ∀ k, k < us.length → curveE (us[k]?.getD U0).st = 0 ∧ 0 ≤ xs[k]?.getD 0 ∧ xs[k]?.getD 0 ≤ qsum (us[k]?.getD U0).st
theorem ecI_bd {us : List Un} {xs : List Int} (h : InC us xs) : ∀ k, k ≤ us.length → (ecI us xs k).natAbs ≤ 9000000000000 * k
  | 0, _ => by simp [ecI]
  | k + 1, hk => by
    have ih := ecI_bd h k (by omega)
    obtain ⟨h1, h2, h3⟩ := h k (by omega)
    have := cst_bd h1 h2 h3
    rw [ecI]
    omega
theorem Kp.alloc {W w' : World} (h : Kp W w') (o : Obj) : Kp W (w'.alloc o) := Below.alloc h (Below.size h) o
theorem Kp.set {W w' : World} (h : Kp W w') {p : Addr} (hp : W.heap.size ≤ p.block) (v : Value) : Kp W (w'.setCell p v) := Below.setCell h hp v

theorem Kp.set4 {W w' : World} (h : Kp W w') {g : Nat} (hg : W.heap.size ≤ g) (a b c d : Value) : Kp W ((((w'.setCell ⟨g, 0, none⟩ a).setCell ⟨g, 1, none⟩ b).setCell ⟨g, 2, none⟩ c).setCell ⟨g, 3, none⟩ d) :=
  (((h.set hg a).set hg b).set hg c).set hg d
theorem CQ.zb {base : Nat} {w : World} {q : Rat} {A A' : Option Addr} {k c k' c' : Nat} (h : CQ base w q A k c A' k' c') : CQ 0 w q A k c A' k' c' := h.mono (Nat.zero_le _)

def EcR (w : World) (g : Nat) (us : List Un) (xs : List Int) (k : Nat) (A : Option Addr) (j c : Nat) (A' : Option Addr) (j' c' : Nat) (wr : World) : Prop :=
  Below w.heap.size w wr ∧ Blk wr g 124 #[.bool (decide (((ecI us xs k : Int) : Rat).num < 0)), .slice A j c, .bool false, .slice A' j' c'] ∧ CQ w.heap.size wr ((ecI us xs k : Int) : Rat) A j c A' j' c'

set_option maxRecDepth 100000 in
set_option maxHeartbeats 16000000 in
theorem ecost_any (A B : Option Addr) (n c d : Nat) (us : List Un) (xs : List Int) (w : World) (h : UsAt w A n us) (h' : IsAt w B n xs) (hn : n ≤ 5) (hI : InC us xs) :
    Calls Tryz.prog 66 #[.slice A n c, .slice B n d] w fun e w' => e = .returned (.tuple #[.int .i64 (ecI us xs n), .int .i64 0]) ∧ Below w.heap.size w w' := by
  have hln := h.1
  have HU := Lib.hid h
  have HX := Lib.hid h'
  have HI := Lib.hid hI
  have HLN := Lib.hid hln
  have hst : EcR w w.heap.size us xs 0 none 0 0 none 0 0 (w.alloc (.cells #[.bool false, .slice none 0 0, .bool false, .slice none 0 0] 124)) := ⟨(Below.refl _ _).alloc (Nat.le_refl _) _, Blk.new w _ _, CQ.zero⟩
  have HST0 := Lib.hid hst
  clear h h' hI hln hst
  go_enter Tryz.func66, Tryz.ntmps66
  go_wp2_with fail
  generalize w.alloc (.cells #[.bool false, .slice none 0 0, .bool false, .slice none 0 0] 124) = W0 at *
  go_loopw [15] (fun t wr => ∃ (k : Nat) (A : Option Addr) (j c : Nat) (A' : Option Addr) (j' c' : Nat), k ≤ n ∧ t = .int .i64 k ∧ Hid (EcR w w.heap.size us xs k A j c A' j' c' wr)) (fun t _ => n - (intOf t).toNat)
  case atStart => exact ⟨0, none, 0, 0, none, 0, 0, Nat.zero_le _, rfl, HST0.out⟩
  case round =>
    clear HST0
    obtain ⟨k, D, dk, dc, D', dk', dc', hk, rfl, hR⟩ := hrel
    by_cases hlt : k < n
    · obtain ⟨hB, hBx, hCx⟩ := hR.out
      obtain ⟨b, o, rfl, hb, hcell⟩ := HU.out.2 (by omega)
      obtain ⟨b', o', rfl, hb', hcell'⟩ := HX.out.2 (by omega)
      have hlen : k < us.length := by have := HLN.out; omega
      have hu := (hcell k hlt).below hb (hB.mono (Nat.le_refl _))
      have hxk := (hB.cell (p := ⟨b', o' + k, none⟩) hb').trans (hcell' k hlt)
      have hbd1 := ecI_bd HI.out k (by omega)
      have hbd2 := ecI_bd HI.out (k + 1) hlen
      obtain ⟨i1, i2, i3⟩ := HI.out k hlen
      have hcb := cst_bd i1 i2 i3
      have hr1 : ecI us xs (k + 1) = ecI us xs k + En.cst (us[k]?.getD U0).st (xs[k]?.getD 0) := rfl
      have hqb : xs[k]?.getD 0 ≤ 3000000 := by
        obtain ⟨_, hl, hok⟩ := curve_ok i1
        have := qsum_bd _ hok
        omega
      have FI := fun W => qfromInt64_any (xs[k]?.getD 0) W (by omega) (by omega)
      generalize xs[k]?.getD 0 = x at *
      generalize us[k]?.getD U0 = u at *
      obtain ⟨bus, mn, st, up, dn, start, idle, spin, on⟩ := u
      obtain ⟨A', n', c', ⟨h0, h1, h2, h3, h4, h5', h6, h7, h8⟩, hs, hn'⟩ := hu
      simp only at h0 h1 h2 h3 h4 h5' h6 h7 h8 hs i1 i3 hcb hr1
      have hbr : b < wr.heap.size := Nat.lt_of_lt_of_le hb hB.size
      have hbr' : b' < wr.heap.size := Nat.lt_of_lt_of_le hb' hB.size
      have HSC := fun (W : World) (hW : StAt W A' n' st) (B1 B2 : Option Addr) (j1 d1 j2 d2 : Nat) (e1 : j1 ≤ d1) (e2 : j2 ≤ d2) (e3 : Wat W B1 j1 (digs ((x : Int) : Rat).num.natAbs)) (e4 : Wat W B2 j2 (denW ((x : Int) : Rat).den)) => scost_whole A' n' c' st B1 B2 j1 d1 j2 d2 x W hW e1 e2 e3 e4 i1 i2 i3
      have HADD := fun (W : World) (B2 B2' : Option Addr) (j2 d2 j2' d2' : Nat) (hx : CQ w.heap.size W ((ecI us xs k : Int) : Rat) D dk dc D' dk' dc') (hy : CQ 0 W ((En.cst st x : Int) : Rat) B2 j2 d2 B2' j2' d2') =>
        qadd_any 4611686018427387904 1152921504606846976 2 wok_small (by omega) (by omega) _ false _ false D D' B2 B2' dk dc dk' dc' j2 d2 j2' d2' ((ecI us xs k : Int) : Rat) ((En.cst st x : Int) : Rat) W (hx.at wok_small (by omega) (by omega) (by rw [Rat.num_intCast]; omega) (by rw [Rat.den_intCast]; omega)) (hy.at wok_small (by omega) (by omega) (by rw [Rat.num_intCast]; omega) (by rw [Rat.den_intCast]; omega))
      have hra : ((ecI us xs k : Int) : Rat) + ((En.cst st x : Int) : Rat) = ((ecI us xs (k + 1) : Int) : Rat) := by rw [hr1, Rat.intCast_add]
      rw [hra] at HADD
      have HFI := Lib.hid FI
      have HSCH := Lib.hid HSC
      have HADDH := Lib.hid HADD
      generalize hqv : ((x : Int) : Rat) = qx at *
      generalize hqc : ((En.cst st x : Int) : Rat) = qc at *
      clear FI HSC HADD hqv hqc hra hr1 hcb hbd1 hbd2 hcell hcell' i1 i3
      have hki : (0 : Int) ≤ (k : Int) ∧ (k : Int) < (n : Int) := by omega
      obtain ⟨hki1, hki2⟩ := hki
      go_wp2_with fail
      have hBx := hBx.alloc (.cells #[.int .i64 bus, .int .i64 mn, .slice A' n' c', .int .i64 up, .int .i64 dn, .int .i64 start, .int .i64 idle, .int .i64 spin, .int .i64 on] 39)
      have hb9 : Below wr.heap.size wr (wr.alloc (.cells #[.int .i64 bus, .int .i64 mn, .slice A' n' c', .int .i64 up, .int .i64 dn, .int .i64 start, .int .i64 idle, .int .i64 spin, .int .i64 on] 39)) := (Below.refl _ _).alloc (Nat.le_refl _) _
      have hCx := hCx.below hb9
      have hs9 := hs.below hb9
      have hUb := Blk.new wr 39 #[.int .i64 bus, .int .i64 mn, .slice A' n' c', .int .i64 up, .int .i64 dn, .int .i64 start, .int .i64 idle, .int .i64 spin, .int .i64 on]
      have hxk9 : (wr.alloc (.cells #[.int .i64 bus, .int .i64 mn, .slice A' n' c', .int .i64 up, .int .i64 dn, .int .i64 start, .int .i64 idle, .int .i64 spin, .int .i64 on] 39)).cell? ⟨b', o' + k, none⟩ = some (.int .i64 x) := by
        rw [World.cell?_alloc_past _ _ _ hbr']; exact hxk
      have hb'2 : b' < (wr.alloc (.cells #[.int .i64 bus, .int .i64 mn, .slice A' n' c', .int .i64 up, .int .i64 dn, .int .i64 start, .int .i64 idle, .int .i64 spin, .int .i64 on] 39)).heap.size := by rw [World.size_alloc]; omega
      have hBw := hB.alloc hB.size (.cells #[.int .i64 bus, .int .i64 mn, .slice A' n' c', .int .i64 up, .int .i64 dn, .int .i64 start, .int .i64 idle, .int .i64 spin, .int .i64 on] 39)
      generalize wr.alloc (.cells #[.int .i64 bus, .int .i64 mn, .slice A' n' c', .int .i64 up, .int .i64 dn, .int .i64 start, .int .i64 idle, .int .i64 spin, .int .i64 on] 39) = W2 at *
      have HCX := Lib.hid hCx
      have HS9 := Lib.hid hs9
      have HXK := Lib.hid hxk9
      clear hCx hs9 hb9 hB hxk h0 h1 h2 h3 h4 h5' h6 h7 h8 hs hxk9
      have s5 := Kp.refl W2
      have hS : ∀ w', Kp W2 w' → (w'.cell? ⟨wr.heap.size, 2, none⟩ = some (.slice A' n' c') ∧ w'.cell? ⟨b', o' + k, none⟩ = some (.int .i64 x)) ∧ Kp W2 w' := fun w' hk => ⟨⟨(hk.blk hUb).cell 2, (Below.cell hk (p := ⟨b', o' + k, none⟩) hb'2).trans HXK.out⟩, hk⟩
      have HS := Lib.hid hS
      clear hS hUb
      go_region_held3 (fun w' => (w'.cell? ⟨wr.heap.size, 2, none⟩ = some (.slice A' n' c') ∧ w'.cell? ⟨b', o' + k, none⟩ = some (.int .i64 x)) ∧ Kp W2 w')
        (first | (with_reducible refine HS.out _ ?_; with_reducible assumption) | (with_reducible refine HS.out _ (Kp.drew ?_); with_reducible assumption) | (with_reducible refine' HS.out _ (Kp.drew (And.right ?_)); rotate_left; with_reducible assumption) | (with_reducible refine' HS.out _ (Kp.alloc (And.right ?_) _); rotate_left; with_reducible assumption) | (with_reducible refine' HS.out _ (Kp.alloc ?_ _); rotate_left; with_reducible assumption) | (with_reducible refine HS.out _ (Kp.drew (Kp.alloc ?_ _)); with_reducible assumption) | ((with_reducible refine' HS.out _ (Kp.set4 (And.right ?_) ?_ _ _ _ _)); rotate_left; (with_reducible assumption); first | exact Nat.le_refl _ | exact Below.size hp5))
        (first
          | (go_at_call 80; have hk := And.right ‹_ ∧ Kp W2 _›; refine (HFI.out _).mono ?_; rintro e v5 ⟨A3, k3, c3, A4, k4, c4, rfl, hk3, hk4, hW3, hW4, hF3, hF4, hb3⟩; have hp5 := Kp.trans hk hb3; (try have hN5 := Blk.below (Blk.drew (Blk.new W2 124 #[.bool false, .slice none 0 0, .bool false, .slice none 0 0])) hb3 (Nat.lt_of_lt_of_eq (Nat.lt_succ_self _) (World.size_alloc _ _).symm)); clear hk hF3 hF4 hb3)
          | (go_at_call 79; have hk := And.right ‹_ ∧ Kp W2 _›; refine (HSCH.out _ (HS9.out.below hk) A3 A4 k3 c3 k4 c4 hk3 hk4 (by first | exact hW3 | exact hW3.alloc _) (by first | exact hW4 | exact hW4.alloc _)).mono ?_; rintro e v6 ⟨A5, k5, c5, A6, k6, c6, rfl, hC5, hb4⟩; have hp6 := Kp.trans hk hb4; (try (have hN6 := hN5.below hb4 hN5.lt; obtain ⟨z0, z1, z2, z3, z4, z5, z6, z7⟩ := Blk.four hN6)); (try (have hN6 := Blk.below (Blk.new v5 124 #[.bool false, .slice none 0 0, .bool false, .slice none 0 0]) hb4 (Nat.lt_of_lt_of_eq (Nat.lt_succ_self _) (World.size_alloc _ _).symm); obtain ⟨z0, z1, z2, z3, z4, z5, z6, z7⟩ := Blk.four hN6)); clear hk hb4))
      · have hVb : Blk (v6.alloc (.cells #[.bool (decide (qc.num < 0)), .slice A5 k5 c5, .bool false, .slice A6 k6 c6] 124)) (v6.heap.size) 124 #[.bool (decide (qc.num < 0)), .slice A5 k5 c5, .bool false, .slice A6 k6 c6] := Blk.new _ _ _
        have hVc : CQ 0 (v6.alloc (.cells #[.bool (decide (qc.num < 0)), .slice A5 k5 c5, .bool false, .slice A6 k6 c6] 124)) qc A5 k5 c5 A6 k6 c6 := (hC5.below ((Below.refl _ _).alloc (Nat.le_refl _) _)).zb
        have hVk : Kp W2 (v6.alloc (.cells #[.bool (decide (qc.num < 0)), .slice A5 k5 c5, .bool false, .slice A6 k6 c6] 124)) := Kp.alloc hp6 _
        generalize v6.alloc (.cells #[.bool (decide (qc.num < 0)), .slice A5 k5 c5, .bool false, .slice A6 k6 c6] 124) = V at *
        generalize hgg : v6.heap.size = g9 at *
        have hBx9 := Kp.blk hVk hBx
        have hz9 := Below.size hVk
        have hz2 := hBw.size
        have hlt9 := hBx9.lt
        obtain ⟨q0, q1, q2, q3, q4, q5, q6, q7⟩ := hBx9.four
        obtain ⟨a0, a1, a2, a3, -⟩ := hVb.four
        have HAD := Lib.hid (HADDH.out V A5 A6 k5 c5 k6 c6 (HCX.out.below hVk) hVc)
        rename_i hHeld
        clear hHeld
        clear HFI HSCH HADDH HS hC5 hp5 hp6 hW3 hW4 hk3 hk4
        (try clear z0 z1 z2 z3 z4 z5 z6 z7 hN6)
        (try clear hN5)
        clear hgg
        go_wp2_with fail
        refine HAD.out.mono ?_
        rintro e v7 ⟨A7, k7, c7, B7, m7, d7, rfl, hk7, hm7, hW7, hV7, hF7, hG7, hb5⟩
        have hb8 := hBx9.below hb5 hBx9.lt
        obtain ⟨i0, i1, i2, i3, i4, i5, i6, i7⟩ := hb8.four
        have hz8 : w.heap.size ≤ V.heap.size := by omega
        have hB7 : Below w.heap.size w v7 := (hBw.trans (Below.mono hVk hBw.size)).trans (hb5.mono hz8)
        have hfin : EcR w w.heap.size us xs (k + 1) A7 k7 c7 B7 m7 d7 (qst v7 w.heap.size 0 (decide (((ecI us xs (k + 1) : Int) : Rat).num < 0)) false A7 B7 k7 c7 m7 d7) :=
          ⟨below_qst hB7 (Nat.le_refl _), hb8.put4, CQ.put4 ⟨hk7, hm7, hW7, hV7, hF7.mono hz8, hG7.mono hz8⟩ hb8 NoInt.four⟩
        have HF := Lib.hid hfin
        have e8 : (((v7.setCell ⟨w.heap.size, 0, none⟩ (.bool (decide (((ecI us xs (k + 1) : Int) : Rat).num < 0)))).setCell ⟨w.heap.size, 1, none⟩ (.slice A7 k7 c7)).setCell ⟨w.heap.size, 2, none⟩ (.bool false)).setCell ⟨w.heap.size, 3, none⟩ (.slice B7 m7 d7) = qst v7 w.heap.size 0 (decide (((ecI us xs (k + 1) : Int) : Rat).num < 0)) false A7 B7 k7 c7 m7 d7 := rfl
        have HE := Lib.hid e8
        clear hfin e8 hb8 hb5 hB7 hW7 hV7 hF7 hG7 q0 q1 q2 q3 q4 q5 q6 q7 a0 a1 a2 a3 hVb hVc hVk hBx9 hBx HAD
        go_wp2
        go_roundw
        case rel => exact ⟨k + 1, A7, k7, c7, B7, m7, d7, by omega, by go_num, HF.out⟩
        case measure => simp [intOf]; omega
      · have hVb : Blk ((((v6.setCell ⟨v5.heap.size, 0, none⟩ (.bool (decide (qc.num < 0)))).setCell ⟨v5.heap.size, 1, none⟩ (.slice A5 k5 c5)).setCell ⟨v5.heap.size, 2, none⟩ (.bool false)).setCell ⟨v5.heap.size, 3, none⟩ (.slice A6 k6 c6)) (v5.heap.size) 124 #[.bool (decide (qc.num < 0)), .slice A5 k5 c5, .bool false, .slice A6 k6 c6] := hN6.set4 _ _ _ _
        have hVc : CQ 0 ((((v6.setCell ⟨v5.heap.size, 0, none⟩ (.bool (decide (qc.num < 0)))).setCell ⟨v5.heap.size, 1, none⟩ (.slice A5 k5 c5)).setCell ⟨v5.heap.size, 2, none⟩ (.bool false)).setCell ⟨v5.heap.size, 3, none⟩ (.slice A6 k6 c6)) qc A5 k5 c5 A6 k6 c6 := (CQ.put4 (o := 0) hC5 hN6 NoInt.four).zb
        have hVk : Kp W2 ((((v6.setCell ⟨v5.heap.size, 0, none⟩ (.bool (decide (qc.num < 0)))).setCell ⟨v5.heap.size, 1, none⟩ (.slice A5 k5 c5)).setCell ⟨v5.heap.size, 2, none⟩ (.bool false)).setCell ⟨v5.heap.size, 3, none⟩ (.slice A6 k6 c6)) := Kp.set4 hp6 (Below.size hp5) _ _ _ _
        generalize (((v6.setCell ⟨v5.heap.size, 0, none⟩ (.bool (decide (qc.num < 0)))).setCell ⟨v5.heap.size, 1, none⟩ (.slice A5 k5 c5)).setCell ⟨v5.heap.size, 2, none⟩ (.bool false)).setCell ⟨v5.heap.size, 3, none⟩ (.slice A6 k6 c6) = V at *
        generalize hgg : v5.heap.size = g9 at *
        have hBx9 := Kp.blk hVk hBx
        have hz9 := Below.size hVk
        have hz2 := hBw.size
        have hlt9 := hBx9.lt
        obtain ⟨q0, q1, q2, q3, q4, q5, q6, q7⟩ := hBx9.four
        obtain ⟨a0, a1, a2, a3, -⟩ := hVb.four
        have HAD := Lib.hid (HADDH.out V A5 A6 k5 c5 k6 c6 (HCX.out.below hVk) hVc)
        rename_i hHeld
        clear hHeld
        clear HFI HSCH HADDH HS hC5 hp5 hp6 hW3 hW4 hk3 hk4
        (try clear z0 z1 z2 z3 z4 z5 z6 z7 hN6)
        (try clear hN5)
        clear hgg
        go_wp2_with fail
        refine HAD.out.mono ?_
        rintro e v7 ⟨A7, k7, c7, B7, m7, d7, rfl, hk7, hm7, hW7, hV7, hF7, hG7, hb5⟩
        have hb8 := hBx9.below hb5 hBx9.lt
        obtain ⟨i0, i1, i2, i3, i4, i5, i6, i7⟩ := hb8.four
        have hz8 : w.heap.size ≤ V.heap.size := by omega
        have hB7 : Below w.heap.size w v7 := (hBw.trans (Below.mono hVk hBw.size)).trans (hb5.mono hz8)
        have hfin : EcR w w.heap.size us xs (k + 1) A7 k7 c7 B7 m7 d7 (qst v7 w.heap.size 0 (decide (((ecI us xs (k + 1) : Int) : Rat).num < 0)) false A7 B7 k7 c7 m7 d7) :=
          ⟨below_qst hB7 (Nat.le_refl _), hb8.put4, CQ.put4 ⟨hk7, hm7, hW7, hV7, hF7.mono hz8, hG7.mono hz8⟩ hb8 NoInt.four⟩
        have HF := Lib.hid hfin
        have e8 : (((v7.setCell ⟨w.heap.size, 0, none⟩ (.bool (decide (((ecI us xs (k + 1) : Int) : Rat).num < 0)))).setCell ⟨w.heap.size, 1, none⟩ (.slice A7 k7 c7)).setCell ⟨w.heap.size, 2, none⟩ (.bool false)).setCell ⟨w.heap.size, 3, none⟩ (.slice B7 m7 d7) = qst v7 w.heap.size 0 (decide (((ecI us xs (k + 1) : Int) : Rat).num < 0)) false A7 B7 k7 c7 m7 d7 := rfl
        have HE := Lib.hid e8
        clear hfin e8 hb8 hb5 hB7 hW7 hV7 hF7 hG7 q0 q1 q2 q3 q4 q5 q6 q7 a0 a1 a2 a3 hVb hVc hVk hBx9 hBx HAD
        go_wp2
        go_roundw
        case rel => exact ⟨k + 1, A7, k7, c7, B7, m7, d7, by omega, by go_num, HF.out⟩
        case measure => simp [intOf]; omega
      · have hVb : Blk ((((v6.setCell ⟨W2.heap.size, 0, none⟩ (.bool (decide (qc.num < 0)))).setCell ⟨W2.heap.size, 1, none⟩ (.slice A5 k5 c5)).setCell ⟨W2.heap.size, 2, none⟩ (.bool false)).setCell ⟨W2.heap.size, 3, none⟩ (.slice A6 k6 c6)) (W2.heap.size) 124 #[.bool (decide (qc.num < 0)), .slice A5 k5 c5, .bool false, .slice A6 k6 c6] := hN6.set4 _ _ _ _
        have hVc : CQ 0 ((((v6.setCell ⟨W2.heap.size, 0, none⟩ (.bool (decide (qc.num < 0)))).setCell ⟨W2.heap.size, 1, none⟩ (.slice A5 k5 c5)).setCell ⟨W2.heap.size, 2, none⟩ (.bool false)).setCell ⟨W2.heap.size, 3, none⟩ (.slice A6 k6 c6)) qc A5 k5 c5 A6 k6 c6 := (CQ.put4 (o := 0) hC5 hN6 NoInt.four).zb
        have hVk : Kp W2 ((((v6.setCell ⟨W2.heap.size, 0, none⟩ (.bool (decide (qc.num < 0)))).setCell ⟨W2.heap.size, 1, none⟩ (.slice A5 k5 c5)).setCell ⟨W2.heap.size, 2, none⟩ (.bool false)).setCell ⟨W2.heap.size, 3, none⟩ (.slice A6 k6 c6)) := Kp.set4 hp6 (Nat.le_refl _) _ _ _ _
        generalize (((v6.setCell ⟨W2.heap.size, 0, none⟩ (.bool (decide (qc.num < 0)))).setCell ⟨W2.heap.size, 1, none⟩ (.slice A5 k5 c5)).setCell ⟨W2.heap.size, 2, none⟩ (.bool false)).setCell ⟨W2.heap.size, 3, none⟩ (.slice A6 k6 c6) = V at *
        generalize hgg : W2.heap.size = g9 at *
        have hBx9 := Kp.blk hVk hBx
        have hz9 := Below.size hVk
        have hz2 := hBw.size
        have hlt9 := hBx9.lt
        obtain ⟨q0, q1, q2, q3, q4, q5, q6, q7⟩ := hBx9.four
        obtain ⟨a0, a1, a2, a3, -⟩ := hVb.four
        have HAD := Lib.hid (HADDH.out V A5 A6 k5 c5 k6 c6 (HCX.out.below hVk) hVc)
        rename_i hHeld
        clear hHeld
        clear HFI HSCH HADDH HS hC5 hp5 hp6 hW3 hW4 hk3 hk4
        (try clear z0 z1 z2 z3 z4 z5 z6 z7 hN6)
        (try clear hN5)
        clear hgg
        go_wp2_with fail
        refine HAD.out.mono ?_
        rintro e v7 ⟨A7, k7, c7, B7, m7, d7, rfl, hk7, hm7, hW7, hV7, hF7, hG7, hb5⟩
        have hb8 := hBx9.below hb5 hBx9.lt
        obtain ⟨i0, i1, i2, i3, i4, i5, i6, i7⟩ := hb8.four
        have hz8 : w.heap.size ≤ V.heap.size := by omega
        have hB7 : Below w.heap.size w v7 := (hBw.trans (Below.mono hVk hBw.size)).trans (hb5.mono hz8)
        have hfin : EcR w w.heap.size us xs (k + 1) A7 k7 c7 B7 m7 d7 (qst v7 w.heap.size 0 (decide (((ecI us xs (k + 1) : Int) : Rat).num < 0)) false A7 B7 k7 c7 m7 d7) :=
          ⟨below_qst hB7 (Nat.le_refl _), hb8.put4, CQ.put4 ⟨hk7, hm7, hW7, hV7, hF7.mono hz8, hG7.mono hz8⟩ hb8 NoInt.four⟩
        have HF := Lib.hid hfin
        have e8 : (((v7.setCell ⟨w.heap.size, 0, none⟩ (.bool (decide (((ecI us xs (k + 1) : Int) : Rat).num < 0)))).setCell ⟨w.heap.size, 1, none⟩ (.slice A7 k7 c7)).setCell ⟨w.heap.size, 2, none⟩ (.bool false)).setCell ⟨w.heap.size, 3, none⟩ (.slice B7 m7 d7) = qst v7 w.heap.size 0 (decide (((ecI us xs (k + 1) : Int) : Rat).num < 0)) false A7 B7 k7 c7 m7 d7 := rfl
        have HE := Lib.hid e8
        clear hfin e8 hb8 hb5 hB7 hW7 hV7 hF7 hG7 q0 q1 q2 q3 q4 q5 q6 q7 a0 a1 a2 a3 hVb hVc hVk hBx9 hBx HAD
        go_wp2
        go_roundw
        case rel => exact ⟨k + 1, A7, k7, c7, B7, m7, d7, by omega, by go_num, HF.out⟩
        case measure => simp [intOf]; omega
    · obtain rfl : k = n := by omega
      obtain ⟨hB, hBx, hCx⟩ := hR.out
      have hbd := ecI_bd HI.out k (by have := HLN.out; omega)
      obtain ⟨q0, q1, q2, q3, -⟩ := hBx.four
      have hT := qfloor_whole 4611686018427387904 1152921504606846976 2 wok_small (by omega) _ false D D' dk dc dk' dc' (ecI us xs k) wr (hCx.at wok_small (by omega) (by omega) (by rw [Rat.num_intCast]; omega) (by rw [Rat.den_intCast]; omega))
      have HT := Lib.hid hT
      clear hT hR hCx
      go_wp2_with fail
      refine HT.out.mono ?_
      rintro e v1 ⟨A1, k1, c1, rfl, hk1, hW1, hF1, hb1⟩
      have hlen2 := len_le_two (m := (ecI us xs k).natAbs) (by omega)
      have hT2 := int64_yes (decide (ecI us xs k < 0)) A1 k1 c1 _ v1 hW1 hk1 (by rw [← hW1.1]; omega) (by rw [val_digs, sg_self]; constructor <;> omega)
      rw [val_digs, sg_self] at hT2
      have HT2 := Lib.hid hT2
      have HB := Lib.hid (hB.trans (hb1.mono hB.size))
      clear hT2 hW1 hF1 hB hbd hlen2 q0 q1 q2 q3 hBx HT
      generalize hzz : ecI us xs k = z at *
      have HZ := Lib.hid hzz
      clear hzz
      go_wp2_with fail
      refine HT2.out.mono ?_
      rintro e v2 ⟨rfl, hb2⟩
      have HB2 := Lib.hid (HB.out.trans (hb2.mono HB.out.size))
      clear HT2 hb2
      go_wp2
      go_ret2
      exact ⟨by rw [HZ.out]; rfl, HB2.out⟩

end Go.Proofs.YtdoeejcmaeefcaaGreat

namespace Go.Proofs.YtdoeejcmaeefcaaGreat
set_option linter.unusedVariables false
set_option linter.unusedSimpArgs false
open Go.RowKit
open Wd
open En (Pc PU)

/-- The error of Allocate. -/
def aerr (us : List Un) (bs : List Bool) (m : Nat) (f : Int) : Int := if echk us m ≠ 0 then echk us m else if f < 0 then 1 else if f < rmin (us.zip bs) ∨ rmax (us.zip bs) < f then 8 else 0
theorem aerr_ok {us : List Un} {bs : List Bool} {m : Nat} {f : Int} (h : aerr us bs m f = 0) : echk us m = 0 ∧ 0 ≤ f ∧ rmin (us.zip bs) ≤ f ∧ f ≤ rmax (us.zip bs) := by
  unfold aerr at h
  by_cases h1 : echk us m ≠ 0
  · rw [if_pos h1] at h; exact absurd h h1
  · rw [if_neg h1] at h
    by_cases h2 : f < 0
    · rw [if_pos h2] at h; cases h
    · rw [if_neg h2] at h
      by_cases h3 : f < rmin (us.zip bs) ∨ rmax (us.zip bs) < f
      · rw [if_pos h3] at h; cases h
      · exact ⟨Classical.byContradiction h1, by omega, by omega, by omega⟩

set_option maxRecDepth 100000 in
set_option maxHeartbeats 4000000 in
theorem ealloc_no (A B : Option Addr) (n c m d : Nat) (us : List Un) (bs : List Bool) (f : Int) (w : World) (h : UsAt w A n us) (h' : BsAt w B m bs) (hm : n ≤ 1000000000000) (hm' : m ≤ 1000000000000) (he : aerr us bs m f ≠ 0) :
    Calls Tryz.prog 65 #[.slice A n c, .slice B m d, .int .i64 f] w fun e w' => e = .returned (.tuple #[.slice none 0 0, .int .i64 (aerr us bs m f)]) ∧ Below w.heap.size w w' := by
  by_cases h1 : echk us m = 0
  · have T := erange_ok A B n c m d us bs w h h' hm hm' h1
    have HT := Lib.hid T
    obtain ⟨hn5, hmn, hok⟩ := echk_ok h1
    have hrb := range_bd (us.zip bs) (fun z hz => hok z.1 (List.of_mem_zip hz).1)
    clear T hmn hok
    by_cases h2 : f < 0
    · have e1 : aerr us bs m f = 1 := by unfold aerr; rw [if_neg (by rw [h1]; simp), if_pos h2]
      rw [e1]
      clear e1 he h1 h h' hrb
      have d1 : decide (f < 0) = true := by simpa using h2
      go_enter Tryz.func65, Tryz.ntmps65
      go_wp2_with fail
      refine HT.out.mono ?_
      rintro e w1 ⟨rfl, hb1⟩
      have HB := Lib.hid hb1
      clear hb1 HT
      go_wp2
      go_ret2
      exact ⟨rfl, HB.out⟩
    · have e1 : aerr us bs m f = if f < rmin (us.zip bs) ∨ rmax (us.zip bs) < f then 8 else 0 := by unfold aerr; rw [if_neg (by rw [h1]; simp), if_neg h2]
      have d1 : decide (f < 0) = false := by simpa using h2
      by_cases h3 : f < rmin (us.zip bs)
      · rw [if_pos (Or.inl h3)] at e1
        rw [e1]
        clear e1 he h1 h h' hrb
        generalize rmin (us.zip bs) = lo at *
        generalize rmax (us.zip bs) = hi at *
        have d2 : decide (f < lo) = true := by simpa using h3
        go_enter Tryz.func65, Tryz.ntmps65
        go_wp2_with fail
        refine HT.out.mono ?_
        rintro e w1 ⟨rfl, hb1⟩
        have HB := Lib.hid hb1
        clear hb1 HT
        go_wp2
        go_ret2
        exact ⟨rfl, HB.out⟩
      · have h4 : rmax (us.zip bs) < f := by
          rcases Int.lt_or_le (rmax (us.zip bs)) f with hx | hx
          · exact hx
          · exfalso; exact he (by rw [e1, if_neg (by omega)])
        rw [if_pos (Or.inr h4)] at e1
        rw [e1]
        clear e1 he h1 h h' hrb
        generalize rmin (us.zip bs) = lo at *
        generalize rmax (us.zip bs) = hi at *
        have d2 : decide (f < lo) = false := by simpa using h3
        have d3 : decide (hi < f) = true := by simpa using h4
        go_enter Tryz.func65, Tryz.ntmps65
        go_wp2_with fail
        refine HT.out.mono ?_
        rintro e w1 ⟨rfl, hb1⟩
        have HB := Lib.hid hb1
        clear hb1 HT
        go_wp2
        go_ret2
        exact ⟨rfl, HB.out⟩
  · have T := erange_no A B n c m d us bs w h h' hm hm' h1
    have e1 : aerr us bs m f = echk us m := by unfold aerr; rw [if_pos h1]
    rw [e1]
    clear e1 he h h'
    generalize echk us m = x at *
    have hx : (x != 0) = true := by simpa using h1
    have HT := Lib.hid T
    clear T h1
    go_enter Tryz.func65, Tryz.ntmps65
    go_wp2_with fail
    refine HT.out.mono ?_
    rintro e w1 ⟨rfl, hb1⟩
    have HB := Lib.hid hb1
    clear hb1 HT
    go_wp2
    go_ret2
    exact ⟨rfl, HB.out⟩

theorem chk_curve {l : List (Int × Int)} (h : chk true l = 0) : curveE l = 0 := by
  unfold curveE; split
  · rfl
  · exact h
/-- The cost as the plain law has it. -/
theorem costR_snoc : ∀ (zs : List PU) (xs : List Int) (z : PU) (x : Int), zs.length = xs.length → En.costR (zs ++ [z]) (xs ++ [x]) = En.costR zs xs + En.cst z.st x
  | [], [], z, x, _ => by simp [En.costR]
  | y :: zs, v :: xs, z, x, h => by
    rw [List.cons_append, List.cons_append, En.costR, En.costR, costR_snoc zs xs z x (by simpa using h)]; omega
  | [], _ :: _, _, _, h => by simp at h
  | _ :: _, [], _, _, h => by simp at h
theorem takeI {xs : List Int} {k : Nat} (hk : k < xs.length) : xs.take (k + 1) = xs.take k ++ [xs[k]?.getD 0] := by
  rw [List.take_succ_eq_append_getElem hk, List.getElem?_eq_getElem hk]; rfl
theorem ecI_costR {us : List Un} {bs : List Bool} {xs : List Int} {n : Nat} (h1 : us.length = n) (h2 : bs.length = n) (h3 : xs.length = n) : ∀ k, k ≤ n → ecI us xs k = En.costR ((pus us bs).take k) (xs.take k)
  | 0, _ => by simp [ecI, En.costR]
  | k + 1, hk => by
    have hl := pus_len h1 h2
    have hg := pus_get (us := us) (bs := bs) (k := k) (by omega) (by omega)
    rw [ecI, ecI_costR h1 h2 h3 k (by omega), take_snocP (by omega), takeI (by omega), costR_snoc _ _ _ _ (by simp; omega)]
    unfold PU0
    rw [hg]
theorem ecI_all {us : List Un} {bs : List Bool} {xs : List Int} {n : Nat} (h1 : us.length = n) (h2 : bs.length = n) (h3 : xs.length = n) : ecI us xs n = En.costR (pus us bs) xs := by
  rw [ecI_costR h1 h2 h3 n (Nat.le_refl _), List.take_of_length_le (by rw [pus_len h1 h2]; exact Nat.le_refl _), List.take_of_length_le (by omega)]
theorem feas_get : ∀ {zs : List PU} {xs : List Int}, En.FeasR zs xs → xs.length = zs.length ∧ ∀ k, k < zs.length → (zs[k]?.getD PU0).dn ≤ xs[k]?.getD 0 ∧ xs[k]?.getD 0 ≤ (zs[k]?.getD PU0).up
  | [], [], _ => ⟨rfl, fun k hk => absurd hk (by simp)⟩
  | z :: zs, x :: xs, h => by
    obtain ⟨h1, h2, h3⟩ := h
    obtain ⟨i1, i2⟩ := feas_get h3
    refine ⟨by simp [i1], fun k hk => ?_⟩
    match k with
    | 0 => exact ⟨h1, h2⟩
    | k + 1 => simpa using i2 k (by simpa using hk)
  | [], _ :: _, h => h.elim
  | _ :: _, [], h => h.elim
theorem feas_of : ∀ {zs : List PU} {xs : List Int}, xs.length = zs.length → (∀ k, k < zs.length → (zs[k]?.getD PU0).dn ≤ xs[k]?.getD 0 ∧ xs[k]?.getD 0 ≤ (zs[k]?.getD PU0).up) → En.FeasR zs xs
  | [], [], _, _ => trivial
  | z :: zs, x :: xs, hl, h => by
    refine ⟨(h 0 (by simp)).1, (h 0 (by simp)).2, feas_of (by simpa using hl) fun k hk => ?_⟩
    have := h (k + 1) (by simpa using hk)
    simpa using this
  | [], _ :: _, h, _ => by simp at h
  | _ :: _, [], h, _ => by simp at h
theorem feas_inC {us : List Un} {bs : List Bool} {xs : List Int} {n : Nat} (h1 : us.length = n) (h2 : bs.length = n) (hok : ∀ u ∈ us, uchk u = 0) (h : En.FeasR (pus us bs) xs) : InC us xs := by
  intro k hk
  obtain ⟨hl, hg⟩ := feas_get h
  have hz := pus_len h1 h2
  have hgk := hg k (by omega)
  unfold PU0 at hgk
  rw [pus_get hk (by omega)] at hgk
  have hm : (us[k]?.getD U0) ∈ us := by rw [List.getElem?_eq_getElem hk]; exact List.getElem_mem _
  obtain ⟨u1, u2, u3, u4, u5, u6⟩ := uchk_ok (hok _ hm)
  refine ⟨chk_curve u1, ?_⟩
  unfold PU.dn PU.up at hgk
  simp only at hgk
  rw [qs_eq] at hgk
  cases hb : bs[k]?.getD false
  · rw [hb] at hgk; simp at hgk; omega
  · rw [hb] at hgk; simp only [if_true] at hgk; omega
theorem IRow.at {w : World} {g : Nat} {xs : List Int} {n : Nat} (h : IRow w g xs) (hl : xs.length = n) : IsAt w (some ⟨g, 0, none⟩) n xs :=
  ⟨hl, fun _ => ⟨g, 0, rfl, Blk.lt h, fun j hj => by rw [Nat.zero_add]; exact h.cell (by omega)⟩⟩
theorem pus_allok {us : List Un} {bs : List Bool} (h : ∀ u ∈ us, uchk u = 0) : En.AllOk (pus us bs) := (pus_ok (zs := us.zip bs) fun z hz => h z.1 (List.of_mem_zip hz).1).1

set_option maxRecDepth 100000 in
set_option maxHeartbeats 4000000 in
theorem elc_ok (A B : Option Addr) (n c d : Nat) (us : List Un) (bs : List Bool) (f : Int) (w : World) (h : UsAt w A n us) (h' : BsAt w B n bs) (hm : n ≤ 1000000000000) (he : aerr us bs n f = 0) :
    Calls Tryz.prog 48 #[.slice A n c, .slice B n d, .int .i64 f] w fun e w' => ∃ xs, En.Opt (pus us bs) f xs ∧ xs.length = n ∧ e = .returned (.tuple #[.int .i64 (En.costR (pus us bs) xs), .int .i64 0]) ∧ Below w.heap.size w w' := by
  obtain ⟨h1, h2, h3, h4⟩ := aerr_ok he
  have HT := Lib.hid (ealloc_ok A B n c d us bs f w h h' hm h1 h2 h3 h4)
  obtain ⟨hn5, hmn, hok⟩ := echk_ok h1
  have HU := Lib.hid h
  have HBL := Lib.hid h'.1
  have HOK := Lib.hid hok
  have hn : n ≤ 5 := by omega
  clear h h' he h1 hmn hok h2 h3 h4 hn5
  go_enter Tryz.func48, Tryz.ntmps48
  go_wp2_with fail
  refine HT.out.mono ?_
  rintro e w1 ⟨g, xs, rfl, hR, hxl, hO, hg, hb1⟩
  have hT := ecost_any A (some ⟨g, 0, none⟩) n c n us xs w1 (HU.out.below hb1) (hR.at hxl) hn (feas_inC HU.out.1 HBL.out HOK.out (hO.feas (pus_allok HOK.out)))
  rw [ecI_all HU.out.1 HBL.out hxl] at hT
  have HT2 := Lib.hid hT
  have HB := Lib.hid hb1
  have HO := Lib.hid hO
  have HXL := Lib.hid hxl
  clear hT hb1 hO hxl HT hR
  go_wp2_with fail
  refine HT2.out.mono ?_
  rintro e w2 ⟨rfl, hb2⟩
  have HB2 := Lib.hid (HB.out.trans (hb2.mono HB.out.size))
  clear hb2 HT2
  go_wp2
  go_ret2
  exact ⟨xs, HO.out, HXL.out, rfl, HB2.out⟩

set_option maxRecDepth 100000 in
set_option maxHeartbeats 4000000 in
theorem elc_no (A B : Option Addr) (n c m d : Nat) (us : List Un) (bs : List Bool) (f : Int) (w : World) (h : UsAt w A n us) (h' : BsAt w B m bs) (hm : n ≤ 1000000000000) (hm' : m ≤ 1000000000000) (he : aerr us bs m f ≠ 0) :
    Calls Tryz.prog 48 #[.slice A n c, .slice B m d, .int .i64 f] w fun e w' => e = .returned (.tuple #[.int .i64 0, .int .i64 (aerr us bs m f)]) ∧ Below w.heap.size w w' := by
  have HT := Lib.hid (ealloc_no A B n c m d us bs f w h h' hm hm' he)
  clear h h'
  generalize aerr us bs m f = x at *
  have hx : (x != 0) = true := by simpa using he
  clear he
  go_enter Tryz.func48, Tryz.ntmps48
  go_wp2_with fail
  refine HT.out.mono ?_
  rintro e w1 ⟨rfl, hb1⟩
  have HB := Lib.hid hb1
  clear hb1 HT
  go_wp2
  go_ret2
  exact ⟨rfl, HB.out⟩

end Go.Proofs.YtdoeejcmaeefcaaGreat

namespace Go.Proofs.YtdoeejcmaeefcaaGreat
set_option linter.unusedVariables false
set_option linter.unusedSimpArgs false
open Go.RowKit
open Wd
open En (Pc PU)

/-- Whether the first k outputs fit. -/
def fitK (zs : List PU) (xs : List Int) (k : Nat) : Prop := ∀ i, i < k → (zs[i]?.getD PU0).dn ≤ xs[i]?.getD 0 ∧ xs[i]?.getD 0 ≤ (zs[i]?.getD PU0).up

end Go.Proofs.YtdoeejcmaeefcaaGreat