/-
Rationals in memory: what it says that a value reads as a rational number; contract of ratio of package frac. No statement of the seat is proved here; no conditions beyond those of each theorem.
-/
import Derived.Test.YtjajigkacccdgaaGreatTdAE
namespace Go.Proofs.YtjajigkacccdgaaGreat
set_option linter.unusedVariables false
set_option linter.unusedSimpArgs false
open Go.RowKit
open Wd

/-- The words of a canonical denominator. -/
def denW (d : Nat) : List Nat := if d = 1 then [] else digs d

/-- The call returns the canonical rational q in new memory; nothing that was there has turned. -/
def RetQ (w : World) (q : Rat) (e : Ending) (w' : World) : Prop :=
 ∃ A k c A' k' c', e = .returned (.agg #[.bool (decide (q.num < 0)), .slice A k c, .bool false, .slice A' k' c']) ∧ k ≤ c ∧ k' ≤ c' ∧ Wat w' A k (digs q.num.natAbs) ∧ Wat w' A' k' (denW q.den) ∧
  Fresh w.heap.size w' A k ∧ Fresh w.heap.size w' A' k' ∧ Below w.heap.size w w'

theorem RetQ.mono {w0 w : World} {q : Rat} {e : Ending} {w' : World} (hb : Below w0.heap.size w0 w) (h : RetQ w q e w') : RetQ w0 q e w' := by
 obtain ⟨A, k, c, A', k', c', he, hk, hk', hW, hW', hF, hF', hB⟩ := h
 exact ⟨A, k, c, A', k', c', he, hk, hk', hW, hW', hF.mono hb.size, hF'.mono hb.size, hb.trans (hB.mono hb.size)⟩

/-- The end of a call that stores its rational result in box g. -/
theorem retQ_close {w W w2 : World} {g base : Nat} {t : TypeId} {A A' : Option Addr} {k c k' c' : Nat} {q : Rat} (hBW : Below w.heap.size w W) (hg : w.heap.size ≤ g) (hb : g < base) (hr : RS4 g t W w2) (hk : k ≤ c) (hk' : k' ≤ c')
  (hW : Wat w2 A k (digs q.num.natAbs)) (hW' : Wat w2 A' k' (denW q.den)) (hF : Fresh base w2 A k) (hF' : Fresh base w2 A' k') :
  RetQ w q (.returned (.agg #[.bool (decide (q.num < 0)), .slice A k c, .bool false, .slice A' k' c'])) ((((w2.setCell ⟨g, 0, none⟩ (.bool (decide (q.num < 0)))).setCell ⟨g, 1, none⟩ (.slice A k c)).setCell ⟨g, 2, none⟩ (.bool false)).setCell ⟨g, 3, none⟩ (.slice A' k' c')) := by
 obtain ⟨h1, h2⟩ := store4_far (g := g) (.bool (decide (q.num < 0))) (.slice A k c) (.bool false) (.slice A' k' c') hW (hF.mono hb)
 obtain ⟨h3, h4⟩ := store4_far (g := g) (.bool (decide (q.num < 0))) (.slice A k c) (.bool false) (.slice A' k' c') hW' (hF'.mono hb)
 exact ⟨A, k, c, A', k', c', rfl, hk, hk', h1, h3, h2.mono hg, h4.mono hg, below_set4 (hBW.trans (hr.1.mono hg)) hg _ _ _ _⟩

theorem mk_num (n : Int) (d : Nat) (hd : d ≠ 0) : (mkRat n d).num = n.tdiv ((Nat.gcd n.natAbs d : Nat) : Int) := by
 rw [Rat.num_mkRat, if_neg hd, Nat.gcd_comm]
 refine (Int.tdiv_eq_ediv_of_dvd ?_).symm
 exact Int.ofNat_dvd_left.2 (Nat.gcd_dvd_left _ _)
theorem mk_den (n : Int) (d : Nat) (hd : d ≠ 0) : (mkRat n d).den = d / Nat.gcd n.natAbs d := by
 rw [Rat.den_mkRat, if_neg hd, Nat.gcd_comm]

theorem natAbs_tmod (a b : Int) : (a.tmod b).natAbs = a.natAbs % b.natAbs := Int.natAbs_tmod a b

def Fit63 (a : Int) : Prop := -9223372036854775807 ≤ a ∧ a ≤ 9223372036854775807
def RatI (n d a b : Int) : Prop := Nat.gcd a.natAbs b.natAbs = Nat.gcd n.natAbs d.natAbs ∧ Fit63 a ∧ Fit63 b

theorem RatI.step {n d a b : Int} (h : RatI n d a b) (hb : b ≠ 0) : RatI n d b (a.tmod b) ∧ (a.tmod b).natAbs < b.natAbs ∧ Fit63 (a.tmod b) := by
 have h1 := Int.natAbs_tmod a b
 have h2 : a.natAbs % b.natAbs < b.natAbs := Nat.mod_lt _ (by omega)
 have h3 : Fit63 (a.tmod b) := by
  obtain ⟨_, _, hb1, hb2⟩ := h
  unfold Fit63; omega
 refine ⟨⟨?_, h.2.2, h3⟩, by omega, h3⟩
 rw [h1, ← h.1, Nat.gcd_comm b.natAbs, ← Nat.gcd_rec, Nat.gcd_comm]

theorem wrap_fit (x : Int) (h : Fit63 x) : IntKind.i64.wrap x = x ∧ wrap64 x = x := by
 obtain ⟨h1, h2⟩ := h
 exact ⟨by rw [IntKind.wrap_i64]; omega, by unfold wrap64; omega⟩
theorem tdiv_fit (n : Int) (G : Nat) (h : Fit63 n) : Fit63 (n.tdiv (G : Int)) := by
 have h1 : (n.tdiv (G : Int)).natAbs = n.natAbs / G := by rw [Int.natAbs_tdiv]; rfl
 have h2 : n.natAbs / G ≤ n.natAbs := Nat.div_le_self _ _
 generalize n.tdiv (G : Int) = x at *
 generalize n.natAbs / G = y at *
 obtain ⟨h3, h4⟩ := h
 unfold Fit63; omega
theorem div_fit (D G : Nat) (h : (D : Int) ≤ 9223372036854775807) : Fit63 ((D / G : Nat) : Int) := by
 have h2 : D / G ≤ D := Nat.div_le_self _ _
 generalize D / G = y at *
 unfold Fit63; omega

set_option maxRecDepth 100000 in
set_option maxHeartbeats 4000000 in
theorem ratio_any (n d : Int) (w : World) (hn : Fit63 n) (hd0 : 0 < d) (hd : d ≤ 9223372036854775807) :
  Calls Tryz.prog 91 #[.int .i64 n, .int .i64 d] w (RetQ w (mkRat n d.toNat)) := by
 obtain ⟨D, rfl⟩ : ∃ D : Nat, d = (D : Int) := ⟨d.toNat, by omega⟩
 have hst : RatI n D n D := ⟨rfl, hn, by unfold Fit63; omega⟩
 rw [Int.toNat_natCast]
 have en := mk_num n D (by omega)
 have ed := mk_den n D (by omega)
 generalize mkRat n D = q at *
 have EN := Lib.hid en
 have ED := Lib.hid ed
 clear en ed
 have HST := Lib.hid hst
 have HN := Lib.hid hn
 have HD := Lib.hid hd
 clear hst hn hd
 go_enter Tryz.func91, Tryz.ntmps91
 go_wp2_with fail
 obtain ⟨hB0, hBW, hsz⟩ := pre1 w 42 #[.bool false, .slice none 0 0, .bool false, .slice none 0 0]
 generalize w.alloc (.cells #[.bool false, .slice none 0 0, .bool false, .slice none 0 0] 42) = W at *
 have HSZ := Lib.hid hsz
 clear hsz
 go_loopw [5, 6] (fun t5 t6 wr => ∃ (a b : Int) (k : Nat), t5 = .int .i64 a ∧ t6 = .int .i64 b ∧ Hid (RatI n D a b) ∧ wr = W.drewN k) (fun _ t6 _ => (intOf t6).natAbs)
 case atStart => exact ⟨n, D, 0, rfl, rfl, HST.out, rfl⟩
 case round =>
  obtain ⟨a, b, k, rfl, rfl, hab, rfl⟩ := hrel
  by_cases hb0 : b = 0
  ·subst hb0
   obtain ⟨hg, ha, -⟩ := hab.out
   rw [show Int.natAbs 0 = 0 from rfl, Nat.gcd_zero_right] at hg
   rw [Int.natAbs_natCast] at hg
   have hD : D ≠ 0 := by omega
   have hGp : 0 < Nat.gcd n.natAbs D := Nat.gcd_pos_of_pos_right _ (by omega)
   have hGd : Nat.gcd n.natAbs D ∣ D := Nat.gcd_dvd_right _ _
   have hGle : Nat.gcd n.natAbs D ≤ D := Nat.le_of_dvd (by omega) hGd
   have en := EN.out
   have ed := ED.out
   clear EN ED
   generalize hGe : Nat.gcd n.natAbs D = G at *
   have hxb : Fit63 q.num := by rw [en]; exact tdiv_fit n G HN.out
   have hyb : Fit63 ((q.den : Nat) : Int) := by rw [ed]; exact div_fit D G HD.out
   have et : (D : Int).tdiv (G : Int) = (q.den : Int) := by rw [ed]; exact (Int.ofNat_tdiv D G).symm
   have q3 : (D : Int) / (G : Int) = (q.den : Int) := by rw [ed]; exact (Int.natCast_ediv D G).symm
   have q1 : IntKind.i64.wrap (n.tdiv (G : Int)) = q.num := by rw [← en]; exact (wrap_fit _ hxb).1
   have q1' : wrap64 (n.tdiv (G : Int)) = q.num := by rw [← en]; exact (wrap_fit _ hxb).2
   have q2 : IntKind.i64.wrap ((D : Int).tdiv (G : Int)) = (q.den : Int) := by rw [et]; exact (wrap_fit _ hyb).1
   have q2' : wrap64 ((D : Int).tdiv (G : Int)) = (q.den : Int) := by rw [et]; exact (wrap_fit _ hyb).2
   have q4 : IntKind.i64.wrap ((q.den : Nat) : Int) = (q.den : Int) := (wrap_fit _ hyb).1
   have q4' : wrap64 ((q.den : Nat) : Int) = (q.den : Int) := (wrap_fit _ hyb).2
   have hG0 : ((G : Int) == 0) = false := by simp; omega
   have hGn : G ≠ 0 := by omega
   have hGi : (G : Int) ≠ 0 := by omega
   have EN := Lib.hid en
   have ED := Lib.hid ed
   have HXB := Lib.hid hxb
   have HYB := Lib.hid hyb
   have hGp' : (0 : Int) < (G : Int) := by omega
   have hsgn : (a < 0 ∧ -a = (G : Int)) ∨ (¬ a < 0 ∧ a = (G : Int)) := by omega
   have hwa := (wrap_fit (-a) (by obtain ⟨x, y⟩ := ha; unfold Fit63; omega)).1
   have hwa' := (wrap_fit (-a) (by obtain ⟨x, y⟩ := ha; unfold Fit63; omega)).2
   have HGL := Lib.hid hGle
   have HGD := Lib.hid hGd
   have HHD := Lib.hid hD
   clear en ed hxb hyb et hab HST hg ha hGd hGle hD hGe hd0
   have hB0 := hB0.drewN k
   have hBW := below_drewN hBW k
   have HSZ2 : Hid ((W.drewN k).heap.size = w.heap.size + 1) := HSZ.out
   clear HSZ
   have HSZ := HSZ2
   clear HSZ2
   generalize W.drewN k = W1 at *
   by_cases hGD : G = D
   ·have h1 : q.den = 1 := by rw [ED.out, hGD]; exact Nat.div_self (by have := HHD.out; omega)
    have hEq : ((G : Int) == (D : Int)) = true := by simp [hGD]
    have H1 := Lib.hid h1
    have HGG := Lib.hid hGD
    clear h1 hGD
    rcases hsgn with ⟨hs, ha⟩ | ⟨hs, ha⟩
    all_goals
     (try rw [ha] at hwa hwa')
     (try subst ha)
     go_wp2_with fail
     refine (fromInt64_any q.num _ (by have := HXB.out.1; omega) (by have := HXB.out.2; omega)).mono ?_
     rintro e w3 ⟨A3, k3, c3, rfl, hk3, hW3, hF3, hb3⟩
     have hr3 := (RS4.start hB0).call hb3
     obtain ⟨_, _, _, _, c0, c1, c2, c4, f0, f1, f2, f3⟩ := hr3.four
     have hk4 : 0 ≤ 0 := Nat.le_refl 0
     have hW4 : Wat w3 none 0 (denW q.den) := by rw [H1.out]; exact Wat.nil
     have hF4 : Fresh W1.heap.size w3 none 0 := Fresh.nil
     have hfin := retQ_close (c' := 0) hBW (Nat.le_refl _) (by have := HSZ.out; omega) hr3 hk3 hk4 hW3 hW4 hF3 hF4
     obtain ⟨d0, d1, d2, d3, -, -, -, -⟩ := (hr3.done (.bool (decide (q.num < 0))) (.slice A3 k3 c3) (.bool false) (.slice none 0 0)).four
     have HF := Lib.hid hfin
     clear hfin hB0 hr3 hW3 hF3 hW4 hF4 hb3
     go_wp2
     refine bodyPost_ret (v := .agg #[.bool (decide (q.num < 0)), .slice A3 k3 c3, .bool false, .slice none 0 0]) ?_ rfl HF.out
     simp [results, Tryz.results91, go_sem, d0, d1, d2, d3]
   ·have h1 : q.den ≠ 1 := by
     intro hh
     rw [ED.out] at hh
     obtain ⟨m, hm⟩ := HGD.out
     rw [hm, Nat.mul_div_cancel_left _ (by omega)] at hh
     rw [hh, Nat.mul_one] at hm
     exact hGD hm.symm
    have hEq : ((G : Int) == (D : Int)) = false := by simp; omega
    have hdw : denW q.den = digs q.den := by unfold denW; rw [if_neg h1]
    have H1 := Lib.hid hdw
    clear h1 hGD hdw
    have s4 := RS4.start hB0
    rcases hsgn with ⟨hs, ha⟩ | ⟨hs, ha⟩
    all_goals
     (try rw [ha] at hwa hwa')
     (try subst ha)
     go_wp2_with fail
     have hS : ∀ w', RS4 (w.heap.size) 42 W1 w' → (True) ∧ RS4 (w.heap.size) 42 W1 w' := fun w' hk => ⟨⟨⟩, hk⟩
     have HS := Lib.hid hS
     clear hS
     clear hB0
     go_region_held3 (fun w' => (True) ∧ RS4 (w.heap.size) 42 W1 w')
      (first | (with_reducible refine HS.out _ ?_; with_reducible assumption) | (with_reducible refine HS.out _ (RS4.drew ?_); with_reducible assumption) | (with_reducible refine' HS.out _ (RS4.drew (And.right ?_)); rotate_left; with_reducible assumption) | (with_reducible refine' HS.out _ (RS4.set (And.right ?_) _ _ _ _); rotate_left; with_reducible assumption))
      (first
       | (go_at_call_of 88 (Value.int .i64 q.num); have hk := And.right ‹_ ∧ RS4 (w.heap.size) 42 W1 _›; refine (fromInt64_any q.num _ (by have := HXB.out.1; omega) (by have := HXB.out.2; omega)).mono ?_; rintro e w3 ⟨A3, k3, c3, rfl, hk3, hW3, hF3, hb3⟩; have hz3 := hk.1.size; have hr3 := hk.call hb3)
       | (go_at_call_of 88 (Value.int .i64 (q.den : Int)); have hk := And.right ‹_ ∧ RS4 (w.heap.size) 42 W1 _›; refine (fromInt64_any (q.den : Int) _ (by have := HYB.out.1; omega) (by have := HYB.out.2; omega)).mono ?_; rintro e w4 ⟨A4, k4, c4, rfl, hk4, hW4, hF4, hb4⟩; have hz4 := hk.1.size; have hr4 := hk.call hb4; obtain ⟨_, _, _, _, c0, c1, c2, c5, f0, f1, f2, f3⟩ := hr4.four))
     have hsn : decide ((q.den : Int) < 0) = false := by simp
     rw [Int.natAbs_natCast, ← H1.out] at hW4
     rw [hsn]
     have hF3 := hF3.keep hW3 hb4
     have hW3 := hW3.below hb4
     have hfin := retQ_close hBW (Nat.le_refl _) (by have := HSZ.out; show _ < W1.heap.size; omega) hr4 hk3 hk4 hW3 hW4 hF3 (hF4.mono hz4)
     obtain ⟨d0, d1, d2, d3, -, -, -, -⟩ := (hr4.done (.bool (decide (q.num < 0))) (.slice A3 k3 c3) (.bool false) (.slice A4 k4 c4)).four
     have HF := Lib.hid hfin
     clear hfin hr3 hr4 hW3 hF3 hW4 hF4 hb3 hb4 c0 c1 c2 c5 f0 f1 f2 f3
     go_wp2
     refine bodyPost_ret (v := .agg #[.bool (decide (q.num < 0)), .slice A3 k3 c3, .bool false, .slice A4 k4 c4]) ?_ rfl HF.out
     simp [results, Tryz.results91, go_sem, d0, d1, d2, d3]
  ·obtain ⟨h1, h2, h3⟩ := hab.out.step hb0
   have hbz : (b != 0) = true := by simpa using hb0
   have hbz' : (b == 0) = false := by simpa using hb0
   have H1 := Lib.hid h1
   have H2 := Lib.hid h2
   have hw : IntKind.i64.wrap (a.tmod b) = a.tmod b := by rw [IntKind.wrap_i64]; obtain ⟨x, y⟩ := h3; omega
   have hw' : wrap64 (a.tmod b) = a.tmod b := by unfold wrap64; obtain ⟨x, y⟩ := h3; omega
   clear hab h1 h2 h3
   go_wp2_with fail
   go_quiet (fail)
   go_wp2
   exact ⟨⟨b, _, _, rfl, rfl, H1.out, World.drewN_drewN _ _ _⟩, H2.out⟩

end Go.Proofs.YtjajigkacccdgaaGreat
