/-
Short names for the steps of a drawn region. The reference of layer 30: Wrong. No statement of the seat is proved here; no conditions beyond those of each theorem.
-/
import Derived.Test.YtodkhjihkkmplaaGreatLPA
import Derived.OrdersHeld
import Derived.Deep.RegionHeld3
import Derived.Test.YtodkhjihkkmplaaGreatLT8
import Derived.Test.YtodkhjihkkmplaaGreatLQD
namespace Go.Proofs.YtodkhjihkkmplaaGreat
set_option linter.unusedVariables false
set_option linter.unusedSimpArgs false
open Go

theorem p1 {α : Type} {xs : List α} {i : Nat} (h : i < xs.toArray.size) : xs.toArray[i] = xs[i]'(by simpa using h) := List.getElem_toArray h
theorem p2 {α : Type} {a : α} {xs : List α} (h : 0 < (a :: xs).length) : (a :: xs)[0] = a := rfl
theorem p3 {α : Type} {a : α} {xs : List α} {i : Nat} (h : i + 1 < (a :: xs).length) : (a :: xs)[i + 1] = xs[i]'(Nat.lt_of_succ_lt_succ h) := rfl
theorem p4 {α : Type} (l : List α) (i : Nat) (a : α) : l.toArray.setIfInBounds i a = (l.set i a).toArray := List.setIfInBounds_toArray l i a
theorem p5 {α : Type} {x a : α} {xs : List α} : (x :: xs).set 0 a = a :: xs := rfl
theorem p6 {α : Type} {x a : α} {xs : List α} {n : Nat} : (x :: xs).set (n + 1) a = x :: xs.set n a := rfl
section
variable {P : Program} {ops : Array Oper} {Q : Exit → Act → World → Prop} {md : Region.Mode} {S : World → Prop}
/-- Take number i first; its value v. -/
theorem tkk {oi : Oper} {v : Value} {fuel : Nat} {listed : Array Bool} {a : Act} {w : World} (i : Nat) (hi : ops[i]? = some oi) (hc : (Region.noSelect ops && (Region.free md ops listed i && (Region.ready md ops listed).contains i)) = true)
  (hQ : ∀ c a w, Q (.panic c) (a.put oi.dst v) w → Q (.panic c) a w) (hy : YieldsIf P ops S oi v a) (hS : S w) (h : wpAnyH P md ops Q S fuel (listed.setIfInBounds i true) (a.put oi.dst v) w) : wpAnyH P md ops Q S (fuel + 1) listed a w := by
 simp only [Bool.and_eq_true] at hc
 exact wpAnyH_take hi hc.1 hc.2.1 hc.2.2 hQ hy hS h
end

end Go.Proofs.YtodkhjihkkmplaaGreat

namespace Go.Proofs.YtodkhjihkkmplaaGreat
set_option linter.unusedVariables false
set_option linter.unusedSimpArgs false
open Go.RowKit
open Wd

set_option maxRecDepth 100000 in
set_option maxHeartbeats 8000000 in
theorem rwrong_any (A B C : Option Addr) (n c m d p pc : Nat) (us : List Un) (bs : List Bool) (qs : List Rat) (need : Int) (w : World) (h : UsAt w A n us) (h' : BsAt w B m bs) (hg : GsAt 0 w C p qs) :
  Calls Tryz.prog 36 #[.slice A n c, .slice B m d, .slice C p pc, .int .i64 need] w fun e w' => e = .returned (.int .i64 (rchk us bs qs need)) ∧ Below w.heap.size w w' := by
 have T := recheck_any A B n c m d us w h
 by_cases he : echk us m ≠ 0
 ·have er : rchk us bs qs need = echk us m := by unfold rchk; rw [h'.1, if_pos he]
  rw [er]
  generalize echk us m = x at *
  have hx1 : (x == 0) = false := by simpa using he
  have hx2 : decide (x = 0) = false := by simpa using he
  have T := Lib.hid T
  clear he er h h' hg
  go_enter Tryz.func36, Tryz.ntmps36
  go_wp2_with fail
  refine T.out.mono ?_
  rintro e w1 ⟨rfl, hb1⟩
  have HB1 := Lib.hid hb1
  clear hb1 T
  go_wp2_with fail
  go_loopw [9, 10] (fun e t wr => e = .int .i64 x ∧ t = .int .i64 0 ∧ Hid (Below w.heap.size w wr)) (fun _ _ _ => 0)
  case atStart => exact ⟨rfl, rfl, HB1⟩
  case round =>
   obtain ⟨rfl, rfl, HB⟩ := hrel
   by_cases hn0 : (0 : Int) < (n : Int)
   ·go_wp2_with fail
    go_ret
    exact ⟨rfl, HB.out⟩
   ·go_wp2_with fail
    go_ret
    exact ⟨rfl, HB.out⟩
 have he : echk us m = 0 := Decidable.not_not.1 he
 rw [he] at T
 by_cases hpn : p ≠ n
 ·have er : rchk us bs qs need = 3 := by unfold rchk; rw [h'.1, if_neg (by simp [he]), if_pos (by rw [hg.1, h.1]; exact hpn)]
  rw [er]
  have hx : ((p : Int) != (n : Int)) = true := by simp; omega
  have T := Lib.hid T
  obtain ⟨x, hx0⟩ : ∃ x : Int, x = 3 := ⟨3, rfl⟩
  rw [← hx0]
  clear he er h h' hg hpn
  go_enter Tryz.func36, Tryz.ntmps36
  go_wp2_with fail
  refine T.out.mono ?_
  rintro e w1 ⟨rfl, hb1⟩
  have HB1 := Lib.hid hb1
  clear hb1 T
  subst hx0
  go_wp2_with fail
  go_loopw [9, 10] (fun e t wr => e = .int .i64 3 ∧ t = .int .i64 0 ∧ Hid (Below w.heap.size w wr)) (fun _ _ _ => 0)
  case atStart => exact ⟨rfl, rfl, HB1⟩
  case round =>
   obtain ⟨rfl, rfl, HB⟩ := hrel
   by_cases hn0 : (0 : Int) < (n : Int)
   ·go_wp2_with fail
    go_ret
    exact ⟨rfl, HB.out⟩
   ·go_wp2_with fail
    go_ret
    exact ⟨rfl, HB.out⟩
 have hpn : p = n := Decidable.not_not.1 hpn
 subst hpn
 obtain ⟨hn5, hmn, hok⟩ := echk_ok he
 have hl := h.1
 have hl' := h'.1
 have hl2 := hg.1
 have hnm : m = p := by omega
 subst hnm
 have HU := Lib.hid h
 have HBS := Lib.hid h'
 have HQ := Lib.hid hg
 have heb : echk us bs.length = 0 := by rw [hl']; exact he
 have HBD0 := Lib.hid (fun (k : Nat) (hk : k < m) hb => (rchk_bad (us := us) (bs := bs) (qs := qs) (need := need) heb (by omega) (show k < us.length by omega) hb).symm)
 have HEND := Lib.hid (fun (hgk : gokN us bs qs m) => rchk_good (us := us) (bs := bs) (qs := qs) (need := need) heb (by omega) (by rw [hl]; exact hgk))
 have HMV := Lib.hid (fun (k : Nat) (hk : k < m) => mostV_bd he (j := k) (by omega) true)
 have hn : m ≤ 5 := by omega
 have T := Lib.hid T
 clear he heb hn5 hmn hok hl hl' hl2 h h' hg
 generalize hrv : rchk us bs qs need = rv0 at *
 clear hrv
 go_enter Tryz.func36, Tryz.ntmps36
 go_wp2_with fail
 refine T.out.mono ?_
 rintro e w1 ⟨rfl, hb1⟩
 have HB1 := Lib.hid hb1
 clear hb1 T
 have hx : ((m : Int) != (m : Int)) = false := by simp
 go_wp2_with fail
 go_loopw [9, 10] (fun e t wr => ∃ (k : Nat) (ev : Int), k ≤ m ∧ e = .int .i64 ev ∧ t = .int .i64 (k : Int) ∧ Hid (Below w.heap.size w wr) ∧ Hid ((ev = 0 → gokN us bs qs k) ∧ (ev ≠ 0 → ev = rv0))) (fun _ t _ => m - (intOf t).toNat)
 case atStart => exact ⟨0, 0, Nat.zero_le _, rfl, rfl, HB1, Lib.hid ⟨fun _ j hj => absurd hj (by omega), fun h => absurd rfl h⟩⟩
 case round =>
  obtain ⟨k, ev, hk, rfl, rfl, hB, hX⟩ := hrel
  by_cases hev : ev = 0
  ·subst hev
   by_cases hlt : k < m
   ·obtain ⟨b, o, rfl, hb, hcell⟩ := HU.out.2 (by omega)
    obtain ⟨b', o', rfl, hb', hcell'⟩ := HBS.out.2 (by omega)
    obtain ⟨b2, o2, rfl, hb2, hcell2⟩ := HQ.out.2 (by omega)
    have hun := (hcell k hlt).below hb hB.out
    have hon := (hB.out.cell (p := ⟨b', o' + k, none⟩) hb').trans (hcell' k hlt)
    obtain ⟨an, aA, ak, ac, an', aA', ak', ac', z1, z2, z3, z4, hq⟩ := hcell2 k hlt
    have z1 := (hB.out.cell (p := ⟨b2, o2 + k * 4, none⟩) hb2).trans z1
    have z2 := (hB.out.cell (p := ⟨b2, o2 + k * 4 + 1, none⟩) hb2).trans z2
    have z3 := (hB.out.cell (p := ⟨b2, o2 + k * 4 + 2, none⟩) hb2).trans z3
    have z4 := (hB.out.cell (p := ⟨b2, o2 + k * 4 + 3, none⟩) hb2).trans z4
    have hq := hq.below hB.out
    have hbr : b < wr.heap.size := Nat.lt_of_lt_of_le hb (Below.size hB.out)
    have hbr' : b' < wr.heap.size := Nat.lt_of_lt_of_le hb' (Below.size hB.out)
    have hbr2 : b2 < wr.heap.size := Nat.lt_of_lt_of_le hb2 (Below.size hB.out)
    have HN := Lib.hid (fun hh => (hX.out.1 rfl).succ hh)
    have HBD := Lib.hid (fun hh => HBD0.out k hlt hh)
    obtain ⟨mv1, mv2⟩ := HMV.out k hlt
    have hgb : gbad (us[k]?.getD U0) (bs[k]?.getD false) (qs[k]?.getD 0) = (decide (sgnQ (qs[k]?.getD 0) < 0) || decide (0 < cmpQ (qs[k]?.getD 0) (mostV (bs[k]?.getD false) (us[k]?.getD U0) : Rat))) := rfl
    generalize bs[k]?.getD false = bk at *
    generalize us[k]?.getD U0 = u at *
    generalize qs[k]?.getD 0 = q at *
    generalize gbad u bk q = gb at *
    have TS := Lib.hid (fun W (hW : Kp wr W) => rsignq_k (k := 0) (by omega) an an' aA aA' ak ac ak' ac' q W (hq.below hW))
    obtain ⟨bus, mn, st, up, dn, start, idle, spin, on⟩ := u
    obtain ⟨A', n', c', ⟨f1, f2, f3, f4, f5, f6, f7, f8, f9⟩, hs, hn'⟩ := hun
    simp only at f1 f2 f3 f4 f5 f6 f7 f8 f9 hs
    have hki1 : (0 : Int) ≤ (k : Int) := by omega
    have hki2 : (k : Int) < (m : Int) := by omega
    have i1 : IntKind.i64.wrap ((k : Int) + 1) = ((k + 1 : Nat) : Int) := IntWalk.i64_in _ (by omega)
    cases bk
    ·have HG : Hid (gb = !(sgnQ q == 0)) := Lib.hid (by
      rw [hgb, sgn_neg, show mostV false ⟨bus, mn, st, up, dn, start, idle, spin, on⟩ = 0 from rfl, cmp_pos]
      have h0 := sgn_nil q
      by_cases hq0 : q = 0
      ·subst hq0; rfl
      ·have h1 : (sgnQ q == 0) = false := by simpa using (fun h => hq0 (h0.1 h))
       rw [h1]
       have h9 : q < 0 ∨ (0 : Rat) < q := by
        by_cases h : q < 0
        ·exact .inl h
        ·right; grind
       rcases h9 with h | h
       ·simp [h]
       ·have e9 : decide (((0 : Int) : Rat) < q) = true := decide_eq_true h
        rw [e9, Bool.or_true]
        rfl)
     obtain ⟨s0, hs0⟩ : ∃ s0, (sgnQ q != 0) = s0 := ⟨_, rfl⟩
     have HS0 : Hid ((!(sgnQ q == 0)) = s0) := Lib.hid hs0
     have hsl : s0 = false → decide (sgnQ q < 0) = false := fun h => by
      rw [h] at hs0
      have : sgnQ q = 0 := by simpa using hs0
      rw [this]; decide
     generalize sgnQ q = sq at *
     clear hcell hcell' hcell2 hb hb' hb2 hq hs hn' hgb mv1 mv2 HMV hX
     cases s0
     ·have hsl := hsl rfl
      have HS := Lib.hid (show ∀ w', Kp wr w' → (w'.cell? ⟨b, o + k * 9, none⟩ = some (.int .i64 bus) ∧ w'.cell? ⟨b, o + k * 9 + 1, none⟩ = some (.int .i64 mn) ∧ w'.cell? ⟨b, o + k * 9 + 2, none⟩ = some (.slice A' n' c') ∧ w'.cell? ⟨b, o + k * 9 + 3, none⟩ = some (.int .i64 up) ∧ w'.cell? ⟨b, o + k * 9 + 4, none⟩ = some (.int .i64 dn) ∧ w'.cell? ⟨b, o + k * 9 + 5, none⟩ = some (.int .i64 start) ∧ w'.cell? ⟨b, o + k * 9 + 6, none⟩ = some (.int .i64 idle) ∧ w'.cell? ⟨b, o + k * 9 + 7, none⟩ = some (.int .i64 spin) ∧ w'.cell? ⟨b, o + k * 9 + 8, none⟩ = some (.int .i64 on) ∧ w'.cell? ⟨b', o' + k, none⟩ = some (.bool false) ∧ w'.cell? ⟨b2, o2 + k * 4, none⟩ = some (.bool an) ∧ w'.cell? ⟨b2, o2 + k * 4 + 1, none⟩ = some (.slice aA ak ac) ∧ w'.cell? ⟨b2, o2 + k * 4 + 2, none⟩ = some (.bool an') ∧ w'.cell? ⟨b2, o2 + k * 4 + 3, none⟩ = some (.slice aA' ak' ac')) ∧ Kp wr w' from fun w' hk => ⟨⟨(Below.cell hk (p := ⟨b, _, none⟩) hbr).trans f1, (Below.cell hk (p := ⟨b, _, none⟩) hbr).trans f2, (Below.cell hk (p := ⟨b, _, none⟩) hbr).trans f3, (Below.cell hk (p := ⟨b, _, none⟩) hbr).trans f4, (Below.cell hk (p := ⟨b, _, none⟩) hbr).trans f5, (Below.cell hk (p := ⟨b, _, none⟩) hbr).trans f6, (Below.cell hk (p := ⟨b, _, none⟩) hbr).trans f7, (Below.cell hk (p := ⟨b, _, none⟩) hbr).trans f8, (Below.cell hk (p := ⟨b, _, none⟩) hbr).trans f9, (Below.cell hk (p := ⟨b', _, none⟩) hbr').trans hon, (Below.cell hk (p := ⟨b2, _, none⟩) hbr2).trans z1, (Below.cell hk (p := ⟨b2, _, none⟩) hbr2).trans z2, (Below.cell hk (p := ⟨b2, _, none⟩) hbr2).trans z3, (Below.cell hk (p := ⟨b2, _, none⟩) hbr2).trans z4⟩, hk⟩)
      go_wp2_with fail
      refine wp_region_held_drew (S := fun w' => (w'.cell? ⟨b, o + k * 9, none⟩ = some (.int .i64 bus) ∧ w'.cell? ⟨b, o + k * 9 + 1, none⟩ = some (.int .i64 mn) ∧ w'.cell? ⟨b, o + k * 9 + 2, none⟩ = some (.slice A' n' c') ∧ w'.cell? ⟨b, o + k * 9 + 3, none⟩ = some (.int .i64 up) ∧ w'.cell? ⟨b, o + k * 9 + 4, none⟩ = some (.int .i64 dn) ∧ w'.cell? ⟨b, o + k * 9 + 5, none⟩ = some (.int .i64 start) ∧ w'.cell? ⟨b, o + k * 9 + 6, none⟩ = some (.int .i64 idle) ∧ w'.cell? ⟨b, o + k * 9 + 7, none⟩ = some (.int .i64 spin) ∧ w'.cell? ⟨b, o + k * 9 + 8, none⟩ = some (.int .i64 on) ∧ w'.cell? ⟨b', o' + k, none⟩ = some (.bool false) ∧ w'.cell? ⟨b2, o2 + k * 4, none⟩ = some (.bool an) ∧ w'.cell? ⟨b2, o2 + k * 4 + 1, none⟩ = some (.slice aA ak ac) ∧ w'.cell? ⟨b2, o2 + k * 4 + 2, none⟩ = some (.bool an') ∧ w'.cell? ⟨b2, o2 + k * 4 + 3, none⟩ = some (.slice aA' ak' ac')) ∧ Kp wr w') (by kernel_rfl) (HS.out _ (Kp.drew (Kp.refl wr))) (fun hHeld => ?_)
      refine' tkk 0 rfl (by kernel_rfl) (fun _ _ _ h => h) (.inl ⟨by rfl, ?_⟩) (by assumption) ?_; rotate_left
      ·(intro w hSw; (try dsimp only at hSw); (try simp only [p1, p2, p3]); go_simp; first | done | with_reducible rfl)
      (try simp only [Act.put, p1, p2, p3, p4, p5, p6])
      refine' tkk 1 rfl (by kernel_rfl) (fun _ _ _ h => h) (.inl ⟨by rfl, ?_⟩) (by assumption) ?_; rotate_left
      ·(intro w hSw; (try dsimp only at hSw); (try simp only [p1, p2, p3]); go_simp; first | done | with_reducible rfl)
      (try simp only [Act.put, p1, p2, p3, p4, p5, p6])
      refine' tkk 2 rfl (by kernel_rfl) (fun _ _ _ h => h) (.inl ⟨by rfl, ?_⟩) (by assumption) ?_; rotate_left
      ·(intro w hSw; (try dsimp only at hSw); (try simp only [p1, p2, p3]); go_simp; first | done | with_reducible rfl)
      (try simp only [Act.put, p1, p2, p3, p4, p5, p6])
      refine' tkk 3 rfl (by kernel_rfl) (fun _ _ _ h => h) (.inl ⟨by rfl, ?_⟩) (by assumption) ?_; rotate_left
      ·(intro w hSw; (try dsimp only at hSw); (try simp only [p1, p2, p3]); go_simp; first | done | with_reducible rfl)
      (try simp only [Act.put, p1, p2, p3, p4, p5, p6])
      refine' tkk 4 rfl (by kernel_rfl) (fun _ _ _ h => h) (.inl ⟨by rfl, ?_⟩) (by assumption) ?_; rotate_left
      ·(intro w hSw; (try dsimp only at hSw); (try simp only [p1, p2, p3]); go_simp; first | done | with_reducible rfl)
      (try simp only [Act.put, p1, p2, p3, p4, p5, p6])
      refine' tkk 5 rfl (by kernel_rfl) (fun _ _ _ h => h) (.inl ⟨by rfl, ?_⟩) (by assumption) ?_; rotate_left
      ·(intro w hSw; (try dsimp only at hSw); (try simp only [p1, p2, p3]); go_simp; first | done | with_reducible rfl)
      (try simp only [Act.put, p1, p2, p3, p4, p5, p6])
      refine' tkk 6 rfl (by kernel_rfl) (fun _ _ _ h => h) (.inl ⟨by rfl, ?_⟩) (by assumption) ?_; rotate_left
      ·(intro w hSw; (try dsimp only at hSw); (try simp only [p1, p2, p3]); go_simp; first | done | with_reducible rfl)
      (try simp only [Act.put, p1, p2, p3, p4, p5, p6])
      refine' tkk 7 rfl (by kernel_rfl) (fun _ _ _ h => h) (.inl ⟨by rfl, ?_⟩) (by assumption) ?_; rotate_left
      ·(intro w hSw; (try dsimp only at hSw); (try simp only [p1, p2, p3]); go_simp; first | done | with_reducible rfl)
      (try simp only [Act.put, p1, p2, p3, p4, p5, p6])
      refine' tkk 8 rfl (by kernel_rfl) (fun _ _ _ h => h) (.inl ⟨by rfl, ?_⟩) (by assumption) ?_; rotate_left
      ·(intro w hSw; (try dsimp only at hSw); (try simp only [p1, p2, p3]); go_simp; first | done | with_reducible rfl)
      (try simp only [Act.put, p1, p2, p3, p4, p5, p6])
      refine' tkk 9 rfl (by kernel_rfl) (fun _ _ _ h => h) (.inl ⟨by rfl, ?_⟩) (by assumption) ?_; rotate_left
      ·(intro w hSw; (try dsimp only at hSw); (try simp only [p1, p2, p3]); go_simp; first | done | with_reducible rfl)
      (try simp only [Act.put, p1, p2, p3, p4, p5, p6])
      refine wpAnyH_ready (rs := [10]) (by kernel_rfl) (by simp) ?_
      refine AllReadyH.cons rfl (fun K hK => ?_) AllReadyH.nil
      (try simp only [p1, p2, p3])
      go_simp
      have hk := And.right ‹_ ∧ Kp wr _›
      refine (TS.out _ hk).mono ?_
      rintro e v1 ⟨rfl, hbx⟩
      have hp := Kp.trans hk hbx
      clear hk hbx
      (try (go_wp2_with fail))
      refine hK.out _ _ ?k1 (fun hHeld1 => ?n1)
      case k1 => ((try dsimp only); first | (with_reducible refine HS.out _ ?_; with_reducible assumption) | (with_reducible refine HS.out _ (Kp.drew ?_); with_reducible assumption) | (with_reducible refine' HS.out _ (Kp.drew (And.right ?_)); rotate_left; with_reducible assumption))
      clear hK K
      (try simp only [Act.put, p1, p2, p3, p4, p5, p6])
      refine' tkk 11 rfl (by kernel_rfl) (fun _ _ _ h => h) (.inl ⟨by rfl, ?_⟩) (by assumption) ?_; rotate_left
      ·(intro w hSw; (try dsimp only at hSw); (try simp only [p1, p2, p3]); go_simp; first | done | with_reducible rfl)
      (try simp only [Act.put, p1, p2, p3, p4, p5, p6])
      refine' tkk 12 rfl (by kernel_rfl) (fun _ _ _ h => h) (.inl ⟨by rfl, ?_⟩) (by assumption) ?_; rotate_left
      ·(intro w hSw; (try dsimp only at hSw); (try simp only [p1, p2, p3]); go_simp; first | done | with_reducible rfl)
      (try simp only [Act.put, p1, p2, p3, p4, p5, p6])
      refine' tkk 13 rfl (by kernel_rfl) (fun _ _ _ h => h) (.inl ⟨by rfl, ?_⟩) (by assumption) ?_; rotate_left
      ·(intro w hSw; (try dsimp only at hSw); (try simp only [p1, p2, p3]); go_simp; first | done | with_reducible rfl)
      (try simp only [Act.put, p1, p2, p3, p4, p5, p6])
      refine' tkk 14 rfl (by kernel_rfl) (fun _ _ _ h => h) (.inl ⟨by rfl, ?_⟩) (by assumption) ?_; rotate_left
      ·(intro w hSw; (try dsimp only at hSw); (try simp only [p1, p2, p3]); go_simp; first | done | with_reducible rfl)
      (try simp only [Act.put, p1, p2, p3, p4, p5, p6])
      refine' tkk 15 rfl (by kernel_rfl) (fun _ _ _ h => h) (.inl ⟨by rfl, ?_⟩) (by assumption) ?_; rotate_left
      ·(intro w hSw; (try dsimp only at hSw); (try simp only [p1, p2, p3]); go_simp; first | done | with_reducible rfl)
      (try simp only [Act.put, p1, p2, p3, p4, p5, p6])
      refine' tkk 16 rfl (by kernel_rfl) (fun _ _ _ h => h) (.inl ⟨by rfl, ?_⟩) (by assumption) ?_; rotate_left
      ·(intro w hSw; (try dsimp only at hSw); (try simp only [p1, p2, p3]); go_simp; first | done | with_reducible rfl)
      (try simp only [Act.put, p1, p2, p3, p4, p5, p6])
      refine' tkk 17 rfl (by kernel_rfl) (fun _ _ _ h => h) (.inl ⟨by rfl, ?_⟩) (by assumption) ?_; rotate_left
      ·(intro w hSw; (try dsimp only at hSw); (try simp only [p1, p2, p3]); go_simp; first | done | with_reducible rfl)
      (try simp only [Act.put, p1, p2, p3, p4, p5, p6])
      refine wpAnyH_ready (rs := [18]) (by kernel_rfl) (by simp) ?_
      refine AllReadyH.cons rfl (fun K hK => ?_) AllReadyH.nil
      (try simp only [p1, p2, p3])
      go_simp
      have hk := And.right ‹_ ∧ Kp wr _›
      refine (TS.out _ hk).mono ?_
      rintro e v2 ⟨rfl, hbx⟩
      have hp := Kp.trans hk hbx
      clear hk hbx
      (try (go_wp2_with fail))
      refine hK.out _ _ ?k2 (fun hHeld2 => ?n2)
      case k2 => ((try dsimp only); first | (with_reducible refine HS.out _ ?_; with_reducible assumption) | (with_reducible refine HS.out _ (Kp.drew ?_); with_reducible assumption) | (with_reducible refine' HS.out _ (Kp.drew (And.right ?_)); rotate_left; with_reducible assumption))
      clear hK K
      (try simp only [Act.put, p1, p2, p3, p4, p5, p6])
      refine' tkk 19 rfl (by kernel_rfl) (fun _ _ _ h => h) (.inl ⟨by rfl, ?_⟩) (by assumption) ?_; rotate_left
      ·(intro w hSw; (try dsimp only at hSw); (try simp only [p1, p2, p3]); go_simp; first | done | with_reducible rfl)
      (try simp only [Act.put, p1, p2, p3, p4, p5, p6])
      refine' tkk 20 rfl (by kernel_rfl) (fun _ _ _ h => h) (.inl ⟨by rfl, ?_⟩) (by assumption) ?_; rotate_left
      ·(intro w hSw; (try dsimp only at hSw); (try simp only [p1, p2, p3]); go_simp; first | done | with_reducible rfl)
      (try simp only [Act.put, p1, p2, p3, p4, p5, p6])
      refine' tkk 21 rfl (by kernel_rfl) (fun _ _ _ h => h) (.inl ⟨by rfl, ?_⟩) (by assumption) ?_; rotate_left
      ·(intro w hSw; (try dsimp only at hSw); (try simp only [p1, p2, p3]); go_simp; first | done | with_reducible rfl)
      (try simp only [Act.put, p1, p2, p3, p4, p5, p6])
      refine' tkk 22 rfl (by kernel_rfl) (fun _ _ _ h => h) (.inl ⟨by rfl, ?_⟩) (by assumption) ?_; rotate_left
      ·(intro w hSw; (try dsimp only at hSw); (try simp only [p1, p2, p3]); go_simp; first | done | with_reducible rfl)
      (try simp only [Act.put, p1, p2, p3, p4, p5, p6])
      refine' tkk 23 rfl (by kernel_rfl) (fun _ _ _ h => h) (.inl ⟨by rfl, ?_⟩) (by assumption) ?_; rotate_left
      ·(intro w hSw; (try dsimp only at hSw); (try simp only [p1, p2, p3]); go_simp; first | done | with_reducible rfl)
      (try simp only [Act.put, p1, p2, p3, p4, p5, p6])
      refine' tkk 24 rfl (by kernel_rfl) (fun _ _ _ h => h) (.inl ⟨by rfl, ?_⟩) (by assumption) ?_; rotate_left
      ·(intro w hSw; (try dsimp only at hSw); (try simp only [p1, p2, p3]); go_simp; first | done | with_reducible rfl)
      (try simp only [Act.put, p1, p2, p3, p4, p5, p6])
      refine' tkk 25 rfl (by kernel_rfl) (fun _ _ _ h => h) (.inl ⟨by rfl, ?_⟩) (by assumption) ?_; rotate_left
      ·(intro w hSw; (try dsimp only at hSw); (try simp only [p1, p2, p3]); go_simp; first | done | with_reducible rfl)
      (try simp only [Act.put, p1, p2, p3, p4, p5, p6])
      refine' tkk 26 rfl (by kernel_rfl) (fun _ _ _ h => h) (.inl ⟨by rfl, ?_⟩) (by assumption) ?_; rotate_left
      ·(intro w hSw; (try dsimp only at hSw); (try simp only [p1, p2, p3]); go_simp; first | done | with_reducible rfl)
      (try simp only [Act.put, p1, p2, p3, p4, p5, p6])
      refine tkk (v := undef) 27 rfl (by kernel_rfl) (fun _ _ _ h => h) (.inr ⟨by rfl, rfl⟩) (by assumption) ?_
      (try simp only [Act.put, p1, p2, p3, p4, p5, p6])
      refine tkk (v := undef) 28 rfl (by kernel_rfl) (fun _ _ _ h => h) (.inr ⟨by rfl, rfl⟩) (by assumption) ?_
      (try simp only [Act.put, p1, p2, p3, p4, p5, p6])
      refine tkk (v := undef) 29 rfl (by kernel_rfl) (fun _ _ _ h => h) (.inr ⟨by rfl, rfl⟩) (by assumption) ?_
      (try simp only [Act.put, p1, p2, p3, p4, p5, p6])
      refine tkk (v := undef) 30 rfl (by kernel_rfl) (fun _ _ _ h => h) (.inr ⟨by rfl, rfl⟩) (by assumption) ?_
      (try simp only [Act.put, p1, p2, p3, p4, p5, p6])
      refine tkk (v := undef) 31 rfl (by kernel_rfl) (fun _ _ _ h => h) (.inr ⟨by rfl, rfl⟩) (by assumption) ?_
      (try simp only [Act.put, p1, p2, p3, p4, p5, p6])
      refine tkk (v := undef) 32 rfl (by kernel_rfl) (fun _ _ _ h => h) (.inr ⟨by rfl, rfl⟩) (by assumption) ?_
      (try simp only [Act.put, p1, p2, p3, p4, p5, p6])
      refine tkk (v := undef) 33 rfl (by kernel_rfl) (fun _ _ _ h => h) (.inr ⟨by rfl, rfl⟩) (by assumption) ?_
      (try simp only [Act.put, p1, p2, p3, p4, p5, p6])
      refine tkk (v := undef) 34 rfl (by kernel_rfl) (fun _ _ _ h => h) (.inr ⟨by rfl, rfl⟩) (by assumption) ?_
      (try simp only [Act.put, p1, p2, p3, p4, p5, p6])
      refine tkk (v := undef) 35 rfl (by kernel_rfl) (fun _ _ _ h => h) (.inr ⟨by rfl, rfl⟩) (by assumption) ?_
      (try simp only [Act.put, p1, p2, p3, p4, p5, p6])
      refine tkk (v := undef) 36 rfl (by kernel_rfl) (fun _ _ _ h => h) (.inr ⟨by rfl, rfl⟩) (by assumption) ?_
      (try simp only [Act.put, p1, p2, p3, p4, p5, p6])
      refine tkk (v := undef) 37 rfl (by kernel_rfl) (fun _ _ _ h => h) (.inr ⟨by rfl, rfl⟩) (by assumption) ?_
      (try simp only [Act.put, p1, p2, p3, p4, p5, p6])
      refine' tkk 38 rfl (by kernel_rfl) (fun _ _ _ h => h) (.inl ⟨by rfl, ?_⟩) (by assumption) ?_; rotate_left
      ·(intro w hSw; (try dsimp only at hSw); (try simp only [p1, p2, p3]); go_simp; first | done | with_reducible rfl)
      (try simp only [Act.put, p1, p2, p3, p4, p5, p6])
      refine' tkk 39 rfl (by kernel_rfl) (fun _ _ _ h => h) (.inl ⟨by rfl, ?_⟩) (by assumption) ?_; rotate_left
      ·(intro w hSw; (try dsimp only at hSw); (try simp only [p1, p2, p3]); go_simp; first | done | with_reducible rfl)
      (try simp only [Act.put, p1, p2, p3, p4, p5, p6])
      refine wpAnyH_done (by kernel_rfl) ?_ _
      have HF := Lib.hid (hB.out.trans (Below.mono hp hB.out.size))
      clear hp
      go_wp2
      go_roundw
      case rel => exact ⟨k + 1, 0, by omega, by first | rfl | go_num, by first | rfl | go_num, HF, Lib.hid ⟨fun _ => HN.out (by rw [HG.out, HS0.out]), fun h => absurd rfl h⟩⟩
      case measure => simp [intOf]; omega
     ·clear hsl
      have HS := Lib.hid (show ∀ w', Kp wr w' → (w'.cell? ⟨b, o + k * 9, none⟩ = some (.int .i64 bus) ∧ w'.cell? ⟨b, o + k * 9 + 1, none⟩ = some (.int .i64 mn) ∧ w'.cell? ⟨b, o + k * 9 + 2, none⟩ = some (.slice A' n' c') ∧ w'.cell? ⟨b, o + k * 9 + 3, none⟩ = some (.int .i64 up) ∧ w'.cell? ⟨b, o + k * 9 + 4, none⟩ = some (.int .i64 dn) ∧ w'.cell? ⟨b, o + k * 9 + 5, none⟩ = some (.int .i64 start) ∧ w'.cell? ⟨b, o + k * 9 + 6, none⟩ = some (.int .i64 idle) ∧ w'.cell? ⟨b, o + k * 9 + 7, none⟩ = some (.int .i64 spin) ∧ w'.cell? ⟨b, o + k * 9 + 8, none⟩ = some (.int .i64 on) ∧ w'.cell? ⟨b', o' + k, none⟩ = some (.bool false) ∧ w'.cell? ⟨b2, o2 + k * 4, none⟩ = some (.bool an) ∧ w'.cell? ⟨b2, o2 + k * 4 + 1, none⟩ = some (.slice aA ak ac) ∧ w'.cell? ⟨b2, o2 + k * 4 + 2, none⟩ = some (.bool an') ∧ w'.cell? ⟨b2, o2 + k * 4 + 3, none⟩ = some (.slice aA' ak' ac')) ∧ Kp wr w' from fun w' hk => ⟨⟨(Below.cell hk (p := ⟨b, _, none⟩) hbr).trans f1, (Below.cell hk (p := ⟨b, _, none⟩) hbr).trans f2, (Below.cell hk (p := ⟨b, _, none⟩) hbr).trans f3, (Below.cell hk (p := ⟨b, _, none⟩) hbr).trans f4, (Below.cell hk (p := ⟨b, _, none⟩) hbr).trans f5, (Below.cell hk (p := ⟨b, _, none⟩) hbr).trans f6, (Below.cell hk (p := ⟨b, _, none⟩) hbr).trans f7, (Below.cell hk (p := ⟨b, _, none⟩) hbr).trans f8, (Below.cell hk (p := ⟨b, _, none⟩) hbr).trans f9, (Below.cell hk (p := ⟨b', _, none⟩) hbr').trans hon, (Below.cell hk (p := ⟨b2, _, none⟩) hbr2).trans z1, (Below.cell hk (p := ⟨b2, _, none⟩) hbr2).trans z2, (Below.cell hk (p := ⟨b2, _, none⟩) hbr2).trans z3, (Below.cell hk (p := ⟨b2, _, none⟩) hbr2).trans z4⟩, hk⟩)
      go_wp2_with fail
      refine wp_region_held_drew (S := fun w' => (w'.cell? ⟨b, o + k * 9, none⟩ = some (.int .i64 bus) ∧ w'.cell? ⟨b, o + k * 9 + 1, none⟩ = some (.int .i64 mn) ∧ w'.cell? ⟨b, o + k * 9 + 2, none⟩ = some (.slice A' n' c') ∧ w'.cell? ⟨b, o + k * 9 + 3, none⟩ = some (.int .i64 up) ∧ w'.cell? ⟨b, o + k * 9 + 4, none⟩ = some (.int .i64 dn) ∧ w'.cell? ⟨b, o + k * 9 + 5, none⟩ = some (.int .i64 start) ∧ w'.cell? ⟨b, o + k * 9 + 6, none⟩ = some (.int .i64 idle) ∧ w'.cell? ⟨b, o + k * 9 + 7, none⟩ = some (.int .i64 spin) ∧ w'.cell? ⟨b, o + k * 9 + 8, none⟩ = some (.int .i64 on) ∧ w'.cell? ⟨b', o' + k, none⟩ = some (.bool false) ∧ w'.cell? ⟨b2, o2 + k * 4, none⟩ = some (.bool an) ∧ w'.cell? ⟨b2, o2 + k * 4 + 1, none⟩ = some (.slice aA ak ac) ∧ w'.cell? ⟨b2, o2 + k * 4 + 2, none⟩ = some (.bool an') ∧ w'.cell? ⟨b2, o2 + k * 4 + 3, none⟩ = some (.slice aA' ak' ac')) ∧ Kp wr w') (by kernel_rfl) (HS.out _ (Kp.drew (Kp.refl wr))) (fun hHeld => ?_)
      refine' tkk 0 rfl (by kernel_rfl) (fun _ _ _ h => h) (.inl ⟨by rfl, ?_⟩) (by assumption) ?_; rotate_left
      ·(intro w hSw; (try dsimp only at hSw); (try simp only [p1, p2, p3]); go_simp; first | done | with_reducible rfl)
      (try simp only [Act.put, p1, p2, p3, p4, p5, p6])
      refine' tkk 1 rfl (by kernel_rfl) (fun _ _ _ h => h) (.inl ⟨by rfl, ?_⟩) (by assumption) ?_; rotate_left
      ·(intro w hSw; (try dsimp only at hSw); (try simp only [p1, p2, p3]); go_simp; first | done | with_reducible rfl)
      (try simp only [Act.put, p1, p2, p3, p4, p5, p6])
      refine' tkk 2 rfl (by kernel_rfl) (fun _ _ _ h => h) (.inl ⟨by rfl, ?_⟩) (by assumption) ?_; rotate_left
      ·(intro w hSw; (try dsimp only at hSw); (try simp only [p1, p2, p3]); go_simp; first | done | with_reducible rfl)
      (try simp only [Act.put, p1, p2, p3, p4, p5, p6])
      refine' tkk 3 rfl (by kernel_rfl) (fun _ _ _ h => h) (.inl ⟨by rfl, ?_⟩) (by assumption) ?_; rotate_left
      ·(intro w hSw; (try dsimp only at hSw); (try simp only [p1, p2, p3]); go_simp; first | done | with_reducible rfl)
      (try simp only [Act.put, p1, p2, p3, p4, p5, p6])
      refine' tkk 4 rfl (by kernel_rfl) (fun _ _ _ h => h) (.inl ⟨by rfl, ?_⟩) (by assumption) ?_; rotate_left
      ·(intro w hSw; (try dsimp only at hSw); (try simp only [p1, p2, p3]); go_simp; first | done | with_reducible rfl)
      (try simp only [Act.put, p1, p2, p3, p4, p5, p6])
      refine' tkk 5 rfl (by kernel_rfl) (fun _ _ _ h => h) (.inl ⟨by rfl, ?_⟩) (by assumption) ?_; rotate_left
      ·(intro w hSw; (try dsimp only at hSw); (try simp only [p1, p2, p3]); go_simp; first | done | with_reducible rfl)
      (try simp only [Act.put, p1, p2, p3, p4, p5, p6])
      refine' tkk 6 rfl (by kernel_rfl) (fun _ _ _ h => h) (.inl ⟨by rfl, ?_⟩) (by assumption) ?_; rotate_left
      ·(intro w hSw; (try dsimp only at hSw); (try simp only [p1, p2, p3]); go_simp; first | done | with_reducible rfl)
      (try simp only [Act.put, p1, p2, p3, p4, p5, p6])
      refine' tkk 7 rfl (by kernel_rfl) (fun _ _ _ h => h) (.inl ⟨by rfl, ?_⟩) (by assumption) ?_; rotate_left
      ·(intro w hSw; (try dsimp only at hSw); (try simp only [p1, p2, p3]); go_simp; first | done | with_reducible rfl)
      (try simp only [Act.put, p1, p2, p3, p4, p5, p6])
      refine' tkk 8 rfl (by kernel_rfl) (fun _ _ _ h => h) (.inl ⟨by rfl, ?_⟩) (by assumption) ?_; rotate_left
      ·(intro w hSw; (try dsimp only at hSw); (try simp only [p1, p2, p3]); go_simp; first | done | with_reducible rfl)
      (try simp only [Act.put, p1, p2, p3, p4, p5, p6])
      refine' tkk 9 rfl (by kernel_rfl) (fun _ _ _ h => h) (.inl ⟨by rfl, ?_⟩) (by assumption) ?_; rotate_left
      ·(intro w hSw; (try dsimp only at hSw); (try simp only [p1, p2, p3]); go_simp; first | done | with_reducible rfl)
      (try simp only [Act.put, p1, p2, p3, p4, p5, p6])
      refine wpAnyH_ready (rs := [10]) (by kernel_rfl) (by simp) ?_
      refine AllReadyH.cons rfl (fun K hK => ?_) AllReadyH.nil
      (try simp only [p1, p2, p3])
      go_simp
      have hk := And.right ‹_ ∧ Kp wr _›
      refine (TS.out _ hk).mono ?_
      rintro e v1 ⟨rfl, hbx⟩
      have hp := Kp.trans hk hbx
      clear hk hbx
      (try (go_wp2_with fail))
      refine hK.out _ _ ?k3 (fun hHeld3 => ?n3)
      case k3 => ((try dsimp only); first | (with_reducible refine HS.out _ ?_; with_reducible assumption) | (with_reducible refine HS.out _ (Kp.drew ?_); with_reducible assumption) | (with_reducible refine' HS.out _ (Kp.drew (And.right ?_)); rotate_left; with_reducible assumption))
      clear hK K
      (try simp only [Act.put, p1, p2, p3, p4, p5, p6])
      refine' tkk 11 rfl (by kernel_rfl) (fun _ _ _ h => h) (.inl ⟨by rfl, ?_⟩) (by assumption) ?_; rotate_left
      ·(intro w hSw; (try dsimp only at hSw); (try simp only [p1, p2, p3]); go_simp; first | done | with_reducible rfl)
      (try simp only [Act.put, p1, p2, p3, p4, p5, p6])
      refine' tkk 12 rfl (by kernel_rfl) (fun _ _ _ h => h) (.inl ⟨by rfl, ?_⟩) (by assumption) ?_; rotate_left
      ·(intro w hSw; (try dsimp only at hSw); (try simp only [p1, p2, p3]); go_simp; first | done | with_reducible rfl)
      (try simp only [Act.put, p1, p2, p3, p4, p5, p6])
      refine' tkk 13 rfl (by kernel_rfl) (fun _ _ _ h => h) (.inl ⟨by rfl, ?_⟩) (by assumption) ?_; rotate_left
      ·(intro w hSw; (try dsimp only at hSw); (try simp only [p1, p2, p3]); go_simp; first | done | with_reducible rfl)
      (try simp only [Act.put, p1, p2, p3, p4, p5, p6])
      refine tkk (v := undef) 14 rfl (by kernel_rfl) (fun _ _ _ h => h) (.inr ⟨by rfl, rfl⟩) (by assumption) ?_
      (try simp only [Act.put, p1, p2, p3, p4, p5, p6])
      refine tkk (v := undef) 15 rfl (by kernel_rfl) (fun _ _ _ h => h) (.inr ⟨by rfl, rfl⟩) (by assumption) ?_
      (try simp only [Act.put, p1, p2, p3, p4, p5, p6])
      refine tkk (v := undef) 16 rfl (by kernel_rfl) (fun _ _ _ h => h) (.inr ⟨by rfl, rfl⟩) (by assumption) ?_
      (try simp only [Act.put, p1, p2, p3, p4, p5, p6])
      refine tkk (v := undef) 17 rfl (by kernel_rfl) (fun _ _ _ h => h) (.inr ⟨by rfl, rfl⟩) (by assumption) ?_
      (try simp only [Act.put, p1, p2, p3, p4, p5, p6])
      refine tkk (v := undef) 18 rfl (by kernel_rfl) (fun _ _ _ h => h) (.inr ⟨by rfl, rfl⟩) (by assumption) ?_
      (try simp only [Act.put, p1, p2, p3, p4, p5, p6])
      refine tkk (v := undef) 19 rfl (by kernel_rfl) (fun _ _ _ h => h) (.inr ⟨by rfl, rfl⟩) (by assumption) ?_
      (try simp only [Act.put, p1, p2, p3, p4, p5, p6])
      refine' tkk 20 rfl (by kernel_rfl) (fun _ _ _ h => h) (.inl ⟨by rfl, ?_⟩) (by assumption) ?_; rotate_left
      ·(intro w hSw; (try dsimp only at hSw); (try simp only [p1, p2, p3]); go_simp; first | done | with_reducible rfl)
      (try simp only [Act.put, p1, p2, p3, p4, p5, p6])
      refine' tkk 21 rfl (by kernel_rfl) (fun _ _ _ h => h) (.inl ⟨by rfl, ?_⟩) (by assumption) ?_; rotate_left
      ·(intro w hSw; (try dsimp only at hSw); (try simp only [p1, p2, p3]); go_simp; first | done | with_reducible rfl)
      (try simp only [Act.put, p1, p2, p3, p4, p5, p6])
      refine tkk (v := undef) 22 rfl (by kernel_rfl) (fun _ _ _ h => h) (.inr ⟨by rfl, rfl⟩) (by assumption) ?_
      (try simp only [Act.put, p1, p2, p3, p4, p5, p6])
      refine tkk (v := undef) 23 rfl (by kernel_rfl) (fun _ _ _ h => h) (.inr ⟨by rfl, rfl⟩) (by assumption) ?_
      (try simp only [Act.put, p1, p2, p3, p4, p5, p6])
      refine tkk (v := undef) 24 rfl (by kernel_rfl) (fun _ _ _ h => h) (.inr ⟨by rfl, rfl⟩) (by assumption) ?_
      (try simp only [Act.put, p1, p2, p3, p4, p5, p6])
      refine tkk (v := undef) 25 rfl (by kernel_rfl) (fun _ _ _ h => h) (.inr ⟨by rfl, rfl⟩) (by assumption) ?_
      (try simp only [Act.put, p1, p2, p3, p4, p5, p6])
      refine tkk (v := undef) 26 rfl (by kernel_rfl) (fun _ _ _ h => h) (.inr ⟨by rfl, rfl⟩) (by assumption) ?_
      (try simp only [Act.put, p1, p2, p3, p4, p5, p6])
      refine tkk (v := undef) 27 rfl (by kernel_rfl) (fun _ _ _ h => h) (.inr ⟨by rfl, rfl⟩) (by assumption) ?_
      (try simp only [Act.put, p1, p2, p3, p4, p5, p6])
      refine tkk (v := undef) 28 rfl (by kernel_rfl) (fun _ _ _ h => h) (.inr ⟨by rfl, rfl⟩) (by assumption) ?_
      (try simp only [Act.put, p1, p2, p3, p4, p5, p6])
      refine tkk (v := undef) 29 rfl (by kernel_rfl) (fun _ _ _ h => h) (.inr ⟨by rfl, rfl⟩) (by assumption) ?_
      (try simp only [Act.put, p1, p2, p3, p4, p5, p6])
      refine tkk (v := undef) 30 rfl (by kernel_rfl) (fun _ _ _ h => h) (.inr ⟨by rfl, rfl⟩) (by assumption) ?_
      (try simp only [Act.put, p1, p2, p3, p4, p5, p6])
      refine tkk (v := undef) 31 rfl (by kernel_rfl) (fun _ _ _ h => h) (.inr ⟨by rfl, rfl⟩) (by assumption) ?_
      (try simp only [Act.put, p1, p2, p3, p4, p5, p6])
      refine tkk (v := undef) 32 rfl (by kernel_rfl) (fun _ _ _ h => h) (.inr ⟨by rfl, rfl⟩) (by assumption) ?_
      (try simp only [Act.put, p1, p2, p3, p4, p5, p6])
      refine tkk (v := undef) 33 rfl (by kernel_rfl) (fun _ _ _ h => h) (.inr ⟨by rfl, rfl⟩) (by assumption) ?_
      (try simp only [Act.put, p1, p2, p3, p4, p5, p6])
      refine tkk (v := undef) 34 rfl (by kernel_rfl) (fun _ _ _ h => h) (.inr ⟨by rfl, rfl⟩) (by assumption) ?_
      (try simp only [Act.put, p1, p2, p3, p4, p5, p6])
      refine tkk (v := undef) 35 rfl (by kernel_rfl) (fun _ _ _ h => h) (.inr ⟨by rfl, rfl⟩) (by assumption) ?_
      (try simp only [Act.put, p1, p2, p3, p4, p5, p6])
      refine tkk (v := undef) 36 rfl (by kernel_rfl) (fun _ _ _ h => h) (.inr ⟨by rfl, rfl⟩) (by assumption) ?_
      (try simp only [Act.put, p1, p2, p3, p4, p5, p6])
      refine tkk (v := undef) 37 rfl (by kernel_rfl) (fun _ _ _ h => h) (.inr ⟨by rfl, rfl⟩) (by assumption) ?_
      (try simp only [Act.put, p1, p2, p3, p4, p5, p6])
      refine tkk (v := undef) 38 rfl (by kernel_rfl) (fun _ _ _ h => h) (.inr ⟨by rfl, rfl⟩) (by assumption) ?_
      (try simp only [Act.put, p1, p2, p3, p4, p5, p6])
      refine' tkk 39 rfl (by kernel_rfl) (fun _ _ _ h => h) (.inl ⟨by rfl, ?_⟩) (by assumption) ?_; rotate_left
      ·(intro w hSw; (try dsimp only at hSw); (try simp only [p1, p2, p3]); go_simp; first | done | with_reducible rfl)
      (try simp only [Act.put, p1, p2, p3, p4, p5, p6])
      refine wpAnyH_done (by kernel_rfl) ?_ _
      have HF := Lib.hid (hB.out.trans (Below.mono hp hB.out.size))
      clear hp
      go_wp2
      go_roundw
      case rel => exact ⟨k + 1, 1, by omega, by first | rfl | go_num, by first | rfl | go_num, HF, Lib.hid ⟨fun h => absurd h (by decide), fun _ => HBD.out (by rw [HG.out, HS0.out])⟩⟩
      case measure => simp [intOf]; omega
    ·have hmt : mostV true ⟨bus, mn, st, up, dn, start, idle, spin, on⟩ = umax ⟨bus, mn, st, up, dn, start, idle, spin, on⟩ := rfl
     rw [hmt] at mv1 mv2 hgb
     have TR := Lib.hid (fun (W : World) (hW : Kp wr W) => rroom30_any 0 (by omega) true bus mn up dn start idle spin on A' aA aA' n' c' ak ac ak' ac' an an' st q W (hs.below hW) hn' (hq.below hW) mv1 mv2)
     have hrv : roomV true ⟨bus, mn, st, up, dn, start, idle, spin, on⟩ q = ((umax ⟨bus, mn, st, up, dn, start, idle, spin, on⟩ : Int) : Rat) - q := rfl
     rw [hrv] at TR
     generalize umax ⟨bus, mn, st, up, dn, start, idle, spin, on⟩ = um at *
     have hsr : decide (sgnQ (((um : Int) : Rat) - q) < 0) = decide (0 < cmpQ q ((um : Int) : Rat)) := by
      rw [sgn_neg, cmp_pos]
      refine decide_eq_decide.2 ?_
      constructor <;> intro h <;> grind
     have hlr : Lv 1 (((um : Int) : Rat) - q) := (lv_int 0 (by omega)).sub hq.lv
     have TS2 := Lib.hid (fun (W : World) (R R' : Option Addr) (k d k' d' : Nat) (h : RQ W (((um : Int) : Rat) - q) R k d R' k' d') => rsignq_k (k := 1) (by omega) (decide ((((um : Int) : Rat) - q).num < 0)) false R R' k d k' d' (((um : Int) : Rat) - q) W (h.qk hlr (by omega)))
     generalize ((um : Int) : Rat) - q = rv at *
     obtain ⟨sr, hsr0⟩ : ∃ sr, decide (sgnQ rv < 0) = sr := ⟨_, rfl⟩
     obtain ⟨sl, hsl0⟩ : ∃ sl, decide (sgnQ q < 0) = sl := ⟨_, rfl⟩
     have HSR : Hid (decide (0 < cmpQ q ((um : Int) : Rat)) = sr) := Lib.hid (hsr.symm.trans hsr0)
     have HSL := Lib.hid hsl0
     have HG := Lib.hid hgb
     generalize sgnQ q = sq at *
     generalize sgnQ rv = sv at *
     clear hcell hcell' hcell2 hb hb' hb2 hq hs hn' hgb mv1 mv2 HMV hX hmt hrv hsr hlr
     cases sl
     ·skip
      have HS := Lib.hid (show ∀ w', Kp wr w' → (w'.cell? ⟨b, o + k * 9, none⟩ = some (.int .i64 bus) ∧ w'.cell? ⟨b, o + k * 9 + 1, none⟩ = some (.int .i64 mn) ∧ w'.cell? ⟨b, o + k * 9 + 2, none⟩ = some (.slice A' n' c') ∧ w'.cell? ⟨b, o + k * 9 + 3, none⟩ = some (.int .i64 up) ∧ w'.cell? ⟨b, o + k * 9 + 4, none⟩ = some (.int .i64 dn) ∧ w'.cell? ⟨b, o + k * 9 + 5, none⟩ = some (.int .i64 start) ∧ w'.cell? ⟨b, o + k * 9 + 6, none⟩ = some (.int .i64 idle) ∧ w'.cell? ⟨b, o + k * 9 + 7, none⟩ = some (.int .i64 spin) ∧ w'.cell? ⟨b, o + k * 9 + 8, none⟩ = some (.int .i64 on) ∧ w'.cell? ⟨b', o' + k, none⟩ = some (.bool true) ∧ w'.cell? ⟨b2, o2 + k * 4, none⟩ = some (.bool an) ∧ w'.cell? ⟨b2, o2 + k * 4 + 1, none⟩ = some (.slice aA ak ac) ∧ w'.cell? ⟨b2, o2 + k * 4 + 2, none⟩ = some (.bool an') ∧ w'.cell? ⟨b2, o2 + k * 4 + 3, none⟩ = some (.slice aA' ak' ac')) ∧ Kp wr w' from fun w' hk => ⟨⟨(Below.cell hk (p := ⟨b, _, none⟩) hbr).trans f1, (Below.cell hk (p := ⟨b, _, none⟩) hbr).trans f2, (Below.cell hk (p := ⟨b, _, none⟩) hbr).trans f3, (Below.cell hk (p := ⟨b, _, none⟩) hbr).trans f4, (Below.cell hk (p := ⟨b, _, none⟩) hbr).trans f5, (Below.cell hk (p := ⟨b, _, none⟩) hbr).trans f6, (Below.cell hk (p := ⟨b, _, none⟩) hbr).trans f7, (Below.cell hk (p := ⟨b, _, none⟩) hbr).trans f8, (Below.cell hk (p := ⟨b, _, none⟩) hbr).trans f9, (Below.cell hk (p := ⟨b', _, none⟩) hbr').trans hon, (Below.cell hk (p := ⟨b2, _, none⟩) hbr2).trans z1, (Below.cell hk (p := ⟨b2, _, none⟩) hbr2).trans z2, (Below.cell hk (p := ⟨b2, _, none⟩) hbr2).trans z3, (Below.cell hk (p := ⟨b2, _, none⟩) hbr2).trans z4⟩, hk⟩)
      go_wp2_with fail
      refine wp_region_held_drew (S := fun w' => (w'.cell? ⟨b, o + k * 9, none⟩ = some (.int .i64 bus) ∧ w'.cell? ⟨b, o + k * 9 + 1, none⟩ = some (.int .i64 mn) ∧ w'.cell? ⟨b, o + k * 9 + 2, none⟩ = some (.slice A' n' c') ∧ w'.cell? ⟨b, o + k * 9 + 3, none⟩ = some (.int .i64 up) ∧ w'.cell? ⟨b, o + k * 9 + 4, none⟩ = some (.int .i64 dn) ∧ w'.cell? ⟨b, o + k * 9 + 5, none⟩ = some (.int .i64 start) ∧ w'.cell? ⟨b, o + k * 9 + 6, none⟩ = some (.int .i64 idle) ∧ w'.cell? ⟨b, o + k * 9 + 7, none⟩ = some (.int .i64 spin) ∧ w'.cell? ⟨b, o + k * 9 + 8, none⟩ = some (.int .i64 on) ∧ w'.cell? ⟨b', o' + k, none⟩ = some (.bool true) ∧ w'.cell? ⟨b2, o2 + k * 4, none⟩ = some (.bool an) ∧ w'.cell? ⟨b2, o2 + k * 4 + 1, none⟩ = some (.slice aA ak ac) ∧ w'.cell? ⟨b2, o2 + k * 4 + 2, none⟩ = some (.bool an') ∧ w'.cell? ⟨b2, o2 + k * 4 + 3, none⟩ = some (.slice aA' ak' ac')) ∧ Kp wr w') (by kernel_rfl) (HS.out _ (Kp.drew (Kp.refl wr))) (fun hHeld => ?_)
      refine' tkk 0 rfl (by kernel_rfl) (fun _ _ _ h => h) (.inl ⟨by rfl, ?_⟩) (by assumption) ?_; rotate_left
      ·(intro w hSw; (try dsimp only at hSw); (try simp only [p1, p2, p3]); go_simp; first | done | with_reducible rfl)
      (try simp only [Act.put, p1, p2, p3, p4, p5, p6])
      refine' tkk 1 rfl (by kernel_rfl) (fun _ _ _ h => h) (.inl ⟨by rfl, ?_⟩) (by assumption) ?_; rotate_left
      ·(intro w hSw; (try dsimp only at hSw); (try simp only [p1, p2, p3]); go_simp; first | done | with_reducible rfl)
      (try simp only [Act.put, p1, p2, p3, p4, p5, p6])
      refine' tkk 2 rfl (by kernel_rfl) (fun _ _ _ h => h) (.inl ⟨by rfl, ?_⟩) (by assumption) ?_; rotate_left
      ·(intro w hSw; (try dsimp only at hSw); (try simp only [p1, p2, p3]); go_simp; first | done | with_reducible rfl)
      (try simp only [Act.put, p1, p2, p3, p4, p5, p6])
      refine' tkk 3 rfl (by kernel_rfl) (fun _ _ _ h => h) (.inl ⟨by rfl, ?_⟩) (by assumption) ?_; rotate_left
      ·(intro w hSw; (try dsimp only at hSw); (try simp only [p1, p2, p3]); go_simp; first | done | with_reducible rfl)
      (try simp only [Act.put, p1, p2, p3, p4, p5, p6])
      refine' tkk 4 rfl (by kernel_rfl) (fun _ _ _ h => h) (.inl ⟨by rfl, ?_⟩) (by assumption) ?_; rotate_left
      ·(intro w hSw; (try dsimp only at hSw); (try simp only [p1, p2, p3]); go_simp; first | done | with_reducible rfl)
      (try simp only [Act.put, p1, p2, p3, p4, p5, p6])
      refine' tkk 5 rfl (by kernel_rfl) (fun _ _ _ h => h) (.inl ⟨by rfl, ?_⟩) (by assumption) ?_; rotate_left
      ·(intro w hSw; (try dsimp only at hSw); (try simp only [p1, p2, p3]); go_simp; first | done | with_reducible rfl)
      (try simp only [Act.put, p1, p2, p3, p4, p5, p6])
      refine tkk (v := undef) 6 rfl (by kernel_rfl) (fun _ _ _ h => h) (.inr ⟨by rfl, rfl⟩) (by assumption) ?_
      (try simp only [Act.put, p1, p2, p3, p4, p5, p6])
      refine tkk (v := undef) 7 rfl (by kernel_rfl) (fun _ _ _ h => h) (.inr ⟨by rfl, rfl⟩) (by assumption) ?_
      (try simp only [Act.put, p1, p2, p3, p4, p5, p6])
      refine tkk (v := undef) 8 rfl (by kernel_rfl) (fun _ _ _ h => h) (.inr ⟨by rfl, rfl⟩) (by assumption) ?_
      (try simp only [Act.put, p1, p2, p3, p4, p5, p6])
      refine tkk (v := undef) 9 rfl (by kernel_rfl) (fun _ _ _ h => h) (.inr ⟨by rfl, rfl⟩) (by assumption) ?_
      (try simp only [Act.put, p1, p2, p3, p4, p5, p6])
      refine tkk (v := undef) 10 rfl (by kernel_rfl) (fun _ _ _ h => h) (.inr ⟨by rfl, rfl⟩) (by assumption) ?_
      (try simp only [Act.put, p1, p2, p3, p4, p5, p6])
      refine tkk (v := undef) 11 rfl (by kernel_rfl) (fun _ _ _ h => h) (.inr ⟨by rfl, rfl⟩) (by assumption) ?_
      (try simp only [Act.put, p1, p2, p3, p4, p5, p6])
      refine' tkk 12 rfl (by kernel_rfl) (fun _ _ _ h => h) (.inl ⟨by rfl, ?_⟩) (by assumption) ?_; rotate_left
      ·(intro w hSw; (try dsimp only at hSw); (try simp only [p1, p2, p3]); go_simp; first | done | with_reducible rfl)
      (try simp only [Act.put, p1, p2, p3, p4, p5, p6])
      refine' tkk 13 rfl (by kernel_rfl) (fun _ _ _ h => h) (.inl ⟨by rfl, ?_⟩) (by assumption) ?_; rotate_left
      ·(intro w hSw; (try dsimp only at hSw); (try simp only [p1, p2, p3]); go_simp; first | done | with_reducible rfl)
      (try simp only [Act.put, p1, p2, p3, p4, p5, p6])
      refine' tkk 14 rfl (by kernel_rfl) (fun _ _ _ h => h) (.inl ⟨by rfl, ?_⟩) (by assumption) ?_; rotate_left
      ·(intro w hSw; (try dsimp only at hSw); (try simp only [p1, p2, p3]); go_simp; first | done | with_reducible rfl)
      (try simp only [Act.put, p1, p2, p3, p4, p5, p6])
      refine' tkk 15 rfl (by kernel_rfl) (fun _ _ _ h => h) (.inl ⟨by rfl, ?_⟩) (by assumption) ?_; rotate_left
      ·(intro w hSw; (try dsimp only at hSw); (try simp only [p1, p2, p3]); go_simp; first | done | with_reducible rfl)
      (try simp only [Act.put, p1, p2, p3, p4, p5, p6])
      refine' tkk 16 rfl (by kernel_rfl) (fun _ _ _ h => h) (.inl ⟨by rfl, ?_⟩) (by assumption) ?_; rotate_left
      ·(intro w hSw; (try dsimp only at hSw); (try simp only [p1, p2, p3]); go_simp; first | done | with_reducible rfl)
      (try simp only [Act.put, p1, p2, p3, p4, p5, p6])
      refine' tkk 17 rfl (by kernel_rfl) (fun _ _ _ h => h) (.inl ⟨by rfl, ?_⟩) (by assumption) ?_; rotate_left
      ·(intro w hSw; (try dsimp only at hSw); (try simp only [p1, p2, p3]); go_simp; first | done | with_reducible rfl)
      (try simp only [Act.put, p1, p2, p3, p4, p5, p6])
      refine wpAnyH_ready (rs := [18]) (by kernel_rfl) (by simp) ?_
      refine AllReadyH.cons rfl (fun K hK => ?_) AllReadyH.nil
      (try simp only [p1, p2, p3])
      go_simp
      have hk := And.right ‹_ ∧ Kp wr _›
      refine (TS.out _ hk).mono ?_
      rintro e v2 ⟨rfl, hbx⟩
      have hp := Kp.trans hk hbx
      clear hk hbx
      (try (go_wp2_with fail))
      refine hK.out _ _ ?k4 (fun hHeld4 => ?n4)
      case k4 => ((try dsimp only); first | (with_reducible refine HS.out _ ?_; with_reducible assumption) | (with_reducible refine HS.out _ (Kp.drew ?_); with_reducible assumption) | (with_reducible refine' HS.out _ (Kp.drew (And.right ?_)); rotate_left; with_reducible assumption))
      clear hK K
      (try simp only [Act.put, p1, p2, p3, p4, p5, p6])
      refine' tkk 19 rfl (by kernel_rfl) (fun _ _ _ h => h) (.inl ⟨by rfl, ?_⟩) (by assumption) ?_; rotate_left
      ·(intro w hSw; (try dsimp only at hSw); (try simp only [p1, p2, p3]); go_simp; first | done | with_reducible rfl)
      (try simp only [Act.put, p1, p2, p3, p4, p5, p6])
      refine' tkk 20 rfl (by kernel_rfl) (fun _ _ _ h => h) (.inl ⟨by rfl, ?_⟩) (by assumption) ?_; rotate_left
      ·(intro w hSw; (try dsimp only at hSw); (try simp only [p1, p2, p3]); go_simp; first | done | with_reducible rfl)
      (try simp only [Act.put, p1, p2, p3, p4, p5, p6])
      refine' tkk 21 rfl (by kernel_rfl) (fun _ _ _ h => h) (.inl ⟨by rfl, ?_⟩) (by assumption) ?_; rotate_left
      ·(intro w hSw; (try dsimp only at hSw); (try simp only [p1, p2, p3]); go_simp; first | done | with_reducible rfl)
      (try simp only [Act.put, p1, p2, p3, p4, p5, p6])
      refine' tkk 22 rfl (by kernel_rfl) (fun _ _ _ h => h) (.inl ⟨by rfl, ?_⟩) (by assumption) ?_; rotate_left
      ·(intro w hSw; (try dsimp only at hSw); (try simp only [p1, p2, p3]); go_simp; first | done | with_reducible rfl)
      (try simp only [Act.put, p1, p2, p3, p4, p5, p6])
      refine' tkk 23 rfl (by kernel_rfl) (fun _ _ _ h => h) (.inl ⟨by rfl, ?_⟩) (by assumption) ?_; rotate_left
      ·(intro w hSw; (try dsimp only at hSw); (try simp only [p1, p2, p3]); go_simp; first | done | with_reducible rfl)
      (try simp only [Act.put, p1, p2, p3, p4, p5, p6])
      refine' tkk 24 rfl (by kernel_rfl) (fun _ _ _ h => h) (.inl ⟨by rfl, ?_⟩) (by assumption) ?_; rotate_left
      ·(intro w hSw; (try dsimp only at hSw); (try simp only [p1, p2, p3]); go_simp; first | done | with_reducible rfl)
      (try simp only [Act.put, p1, p2, p3, p4, p5, p6])
      refine' tkk 25 rfl (by kernel_rfl) (fun _ _ _ h => h) (.inl ⟨by rfl, ?_⟩) (by assumption) ?_; rotate_left
      ·(intro w hSw; (try dsimp only at hSw); (try simp only [p1, p2, p3]); go_simp; first | done | with_reducible rfl)
      (try simp only [Act.put, p1, p2, p3, p4, p5, p6])
      refine' tkk 26 rfl (by kernel_rfl) (fun _ _ _ h => h) (.inl ⟨by rfl, ?_⟩) (by assumption) ?_; rotate_left
      ·(intro w hSw; (try dsimp only at hSw); (try simp only [p1, p2, p3]); go_simp; first | done | with_reducible rfl)
      (try simp only [Act.put, p1, p2, p3, p4, p5, p6])
      refine' tkk 27 rfl (by kernel_rfl) (fun _ _ _ h => h) (.inl ⟨by rfl, ?_⟩) (by assumption) ?_; rotate_left
      ·(intro w hSw; (try dsimp only at hSw); (try simp only [p1, p2, p3]); go_simp; first | done | with_reducible rfl)
      (try simp only [Act.put, p1, p2, p3, p4, p5, p6])
      refine' tkk 28 rfl (by kernel_rfl) (fun _ _ _ h => h) (.inl ⟨by rfl, ?_⟩) (by assumption) ?_; rotate_left
      ·(intro w hSw; (try dsimp only at hSw); (try simp only [p1, p2, p3]); go_simp; first | done | with_reducible rfl)
      (try simp only [Act.put, p1, p2, p3, p4, p5, p6])
      refine' tkk 29 rfl (by kernel_rfl) (fun _ _ _ h => h) (.inl ⟨by rfl, ?_⟩) (by assumption) ?_; rotate_left
      ·(intro w hSw; (try dsimp only at hSw); (try simp only [p1, p2, p3]); go_simp; first | done | with_reducible rfl)
      (try simp only [Act.put, p1, p2, p3, p4, p5, p6])
      refine' tkk 30 rfl (by kernel_rfl) (fun _ _ _ h => h) (.inl ⟨by rfl, ?_⟩) (by assumption) ?_; rotate_left
      ·(intro w hSw; (try dsimp only at hSw); (try simp only [p1, p2, p3]); go_simp; first | done | with_reducible rfl)
      (try simp only [Act.put, p1, p2, p3, p4, p5, p6])
      refine' tkk 31 rfl (by kernel_rfl) (fun _ _ _ h => h) (.inl ⟨by rfl, ?_⟩) (by assumption) ?_; rotate_left
      ·(intro w hSw; (try dsimp only at hSw); (try simp only [p1, p2, p3]); go_simp; first | done | with_reducible rfl)
      (try simp only [Act.put, p1, p2, p3, p4, p5, p6])
      refine' tkk 32 rfl (by kernel_rfl) (fun _ _ _ h => h) (.inl ⟨by rfl, ?_⟩) (by assumption) ?_; rotate_left
      ·(intro w hSw; (try dsimp only at hSw); (try simp only [p1, p2, p3]); go_simp; first | done | with_reducible rfl)
      (try simp only [Act.put, p1, p2, p3, p4, p5, p6])
      refine' tkk 33 rfl (by kernel_rfl) (fun _ _ _ h => h) (.inl ⟨by rfl, ?_⟩) (by assumption) ?_; rotate_left
      ·(intro w hSw; (try dsimp only at hSw); (try simp only [p1, p2, p3]); go_simp; first | done | with_reducible rfl)
      (try simp only [Act.put, p1, p2, p3, p4, p5, p6])
      refine' tkk 34 rfl (by kernel_rfl) (fun _ _ _ h => h) (.inl ⟨by rfl, ?_⟩) (by assumption) ?_; rotate_left
      ·(intro w hSw; (try dsimp only at hSw); (try simp only [p1, p2, p3]); go_simp; first | done | with_reducible rfl)
      (try simp only [Act.put, p1, p2, p3, p4, p5, p6])
      refine wpAnyH_ready (rs := [35]) (by kernel_rfl) (by simp) ?_
      refine AllReadyH.cons rfl (fun K hK => ?_) AllReadyH.nil
      (try simp only [p1, p2, p3])
      go_simp
      have hk := And.right ‹_ ∧ Kp wr _›
      refine (TR.out _ hk).mono ?_
      rintro e v5 ⟨A9, k9, c9, B9, j9, e9, rfl, hk9, hj9, hW9, hX9, -, -, hbx⟩
      have hp := Kp.trans hk hbx
      have r9 : RQ v5 rv A9 k9 c9 B9 j9 e9 := ⟨hk9, hj9, hW9, hX9⟩
      clear hk hbx hk9 hj9 hW9 hX9
      (try (go_wp2_with fail))
      refine hK.out _ _ ?k5 (fun hHeld5 => ?n5)
      case k5 => ((try dsimp only); first | (with_reducible refine HS.out _ ?_; with_reducible assumption) | (with_reducible refine HS.out _ (Kp.drew ?_); with_reducible assumption) | (with_reducible refine' HS.out _ (Kp.drew (And.right ?_)); rotate_left; with_reducible assumption))
      clear hK K
      (try simp only [Act.put, p1, p2, p3, p4, p5, p6])
      refine wpAnyH_ready (rs := [36]) (by kernel_rfl) (by simp) ?_
      refine AllReadyH.cons rfl (fun K hK => ?_) AllReadyH.nil
      (try simp only [p1, p2, p3])
      go_simp
      have hk := And.right ‹_ ∧ Kp wr _›
      refine (TS2.out _ _ _ _ _ _ _ r9).mono ?_
      rintro e v6 ⟨rfl, hbx⟩
      have hp := Kp.trans hk hbx
      clear hk hbx r9
      (try (go_wp2_with fail))
      refine hK.out _ _ ?k6 (fun hHeld6 => ?n6)
      case k6 => ((try dsimp only); first | (with_reducible refine HS.out _ ?_; with_reducible assumption) | (with_reducible refine HS.out _ (Kp.drew ?_); with_reducible assumption) | (with_reducible refine' HS.out _ (Kp.drew (And.right ?_)); rotate_left; with_reducible assumption))
      clear hK K
      (try simp only [Act.put, p1, p2, p3, p4, p5, p6])
      refine' tkk 37 rfl (by kernel_rfl) (fun _ _ _ h => h) (.inl ⟨by rfl, ?_⟩) (by assumption) ?_; rotate_left
      ·(intro w hSw; (try dsimp only at hSw); (try simp only [p1, p2, p3]); go_simp; first | done | with_reducible rfl)
      (try simp only [Act.put, p1, p2, p3, p4, p5, p6])
      refine' tkk 38 rfl (by kernel_rfl) (fun _ _ _ h => h) (.inl ⟨by rfl, ?_⟩) (by assumption) ?_; rotate_left
      ·(intro w hSw; (try dsimp only at hSw); (try simp only [p1, p2, p3]); go_simp; first | done | with_reducible rfl)
      (try simp only [Act.put, p1, p2, p3, p4, p5, p6])
      refine' tkk 39 rfl (by kernel_rfl) (fun _ _ _ h => h) (.inl ⟨by rfl, ?_⟩) (by assumption) ?_; rotate_left
      ·(intro w hSw; (try dsimp only at hSw); (try simp only [p1, p2, p3]); go_simp; first | done | with_reducible rfl)
      (try simp only [Act.put, p1, p2, p3, p4, p5, p6])
      refine wpAnyH_done (by kernel_rfl) ?_ _
      cases sr
      ·have HF := Lib.hid (hB.out.trans (Below.mono hp hB.out.size))
       clear hp
       go_wp2
       go_roundw
       case rel => exact ⟨k + 1, 0, by omega, by first | rfl | go_num, by first | rfl | go_num, HF, Lib.hid ⟨fun _ => HN.out (by rw [HG.out, HSR.out, HSL.out]; rfl), fun h => absurd rfl h⟩⟩
       case measure => simp [intOf]; omega
      ·have HF := Lib.hid (hB.out.trans (Below.mono hp hB.out.size))
       clear hp
       go_wp2
       go_roundw
       case rel => exact ⟨k + 1, 1, by omega, by first | rfl | go_num, by first | rfl | go_num, HF, Lib.hid ⟨fun h => absurd h (by decide), fun _ => HBD.out (by rw [HG.out, HSR.out, HSL.out]; rfl)⟩⟩
       case measure => simp [intOf]; omega
     ·clear hsr0
      have HS := Lib.hid (show ∀ w', Kp wr w' → (w'.cell? ⟨b, o + k * 9, none⟩ = some (.int .i64 bus) ∧ w'.cell? ⟨b, o + k * 9 + 1, none⟩ = some (.int .i64 mn) ∧ w'.cell? ⟨b, o + k * 9 + 2, none⟩ = some (.slice A' n' c') ∧ w'.cell? ⟨b, o + k * 9 + 3, none⟩ = some (.int .i64 up) ∧ w'.cell? ⟨b, o + k * 9 + 4, none⟩ = some (.int .i64 dn) ∧ w'.cell? ⟨b, o + k * 9 + 5, none⟩ = some (.int .i64 start) ∧ w'.cell? ⟨b, o + k * 9 + 6, none⟩ = some (.int .i64 idle) ∧ w'.cell? ⟨b, o + k * 9 + 7, none⟩ = some (.int .i64 spin) ∧ w'.cell? ⟨b, o + k * 9 + 8, none⟩ = some (.int .i64 on) ∧ w'.cell? ⟨b', o' + k, none⟩ = some (.bool true) ∧ w'.cell? ⟨b2, o2 + k * 4, none⟩ = some (.bool an) ∧ w'.cell? ⟨b2, o2 + k * 4 + 1, none⟩ = some (.slice aA ak ac) ∧ w'.cell? ⟨b2, o2 + k * 4 + 2, none⟩ = some (.bool an') ∧ w'.cell? ⟨b2, o2 + k * 4 + 3, none⟩ = some (.slice aA' ak' ac')) ∧ Kp wr w' from fun w' hk => ⟨⟨(Below.cell hk (p := ⟨b, _, none⟩) hbr).trans f1, (Below.cell hk (p := ⟨b, _, none⟩) hbr).trans f2, (Below.cell hk (p := ⟨b, _, none⟩) hbr).trans f3, (Below.cell hk (p := ⟨b, _, none⟩) hbr).trans f4, (Below.cell hk (p := ⟨b, _, none⟩) hbr).trans f5, (Below.cell hk (p := ⟨b, _, none⟩) hbr).trans f6, (Below.cell hk (p := ⟨b, _, none⟩) hbr).trans f7, (Below.cell hk (p := ⟨b, _, none⟩) hbr).trans f8, (Below.cell hk (p := ⟨b, _, none⟩) hbr).trans f9, (Below.cell hk (p := ⟨b', _, none⟩) hbr').trans hon, (Below.cell hk (p := ⟨b2, _, none⟩) hbr2).trans z1, (Below.cell hk (p := ⟨b2, _, none⟩) hbr2).trans z2, (Below.cell hk (p := ⟨b2, _, none⟩) hbr2).trans z3, (Below.cell hk (p := ⟨b2, _, none⟩) hbr2).trans z4⟩, hk⟩)
      go_wp2_with fail
      refine wp_region_held_drew (S := fun w' => (w'.cell? ⟨b, o + k * 9, none⟩ = some (.int .i64 bus) ∧ w'.cell? ⟨b, o + k * 9 + 1, none⟩ = some (.int .i64 mn) ∧ w'.cell? ⟨b, o + k * 9 + 2, none⟩ = some (.slice A' n' c') ∧ w'.cell? ⟨b, o + k * 9 + 3, none⟩ = some (.int .i64 up) ∧ w'.cell? ⟨b, o + k * 9 + 4, none⟩ = some (.int .i64 dn) ∧ w'.cell? ⟨b, o + k * 9 + 5, none⟩ = some (.int .i64 start) ∧ w'.cell? ⟨b, o + k * 9 + 6, none⟩ = some (.int .i64 idle) ∧ w'.cell? ⟨b, o + k * 9 + 7, none⟩ = some (.int .i64 spin) ∧ w'.cell? ⟨b, o + k * 9 + 8, none⟩ = some (.int .i64 on) ∧ w'.cell? ⟨b', o' + k, none⟩ = some (.bool true) ∧ w'.cell? ⟨b2, o2 + k * 4, none⟩ = some (.bool an) ∧ w'.cell? ⟨b2, o2 + k * 4 + 1, none⟩ = some (.slice aA ak ac) ∧ w'.cell? ⟨b2, o2 + k * 4 + 2, none⟩ = some (.bool an') ∧ w'.cell? ⟨b2, o2 + k * 4 + 3, none⟩ = some (.slice aA' ak' ac')) ∧ Kp wr w') (by kernel_rfl) (HS.out _ (Kp.drew (Kp.refl wr))) (fun hHeld => ?_)
      refine' tkk 0 rfl (by kernel_rfl) (fun _ _ _ h => h) (.inl ⟨by rfl, ?_⟩) (by assumption) ?_; rotate_left
      ·(intro w hSw; (try dsimp only at hSw); (try simp only [p1, p2, p3]); go_simp; first | done | with_reducible rfl)
      (try simp only [Act.put, p1, p2, p3, p4, p5, p6])
      refine' tkk 1 rfl (by kernel_rfl) (fun _ _ _ h => h) (.inl ⟨by rfl, ?_⟩) (by assumption) ?_; rotate_left
      ·(intro w hSw; (try dsimp only at hSw); (try simp only [p1, p2, p3]); go_simp; first | done | with_reducible rfl)
      (try simp only [Act.put, p1, p2, p3, p4, p5, p6])
      refine' tkk 2 rfl (by kernel_rfl) (fun _ _ _ h => h) (.inl ⟨by rfl, ?_⟩) (by assumption) ?_; rotate_left
      ·(intro w hSw; (try dsimp only at hSw); (try simp only [p1, p2, p3]); go_simp; first | done | with_reducible rfl)
      (try simp only [Act.put, p1, p2, p3, p4, p5, p6])
      refine' tkk 3 rfl (by kernel_rfl) (fun _ _ _ h => h) (.inl ⟨by rfl, ?_⟩) (by assumption) ?_; rotate_left
      ·(intro w hSw; (try dsimp only at hSw); (try simp only [p1, p2, p3]); go_simp; first | done | with_reducible rfl)
      (try simp only [Act.put, p1, p2, p3, p4, p5, p6])
      refine' tkk 4 rfl (by kernel_rfl) (fun _ _ _ h => h) (.inl ⟨by rfl, ?_⟩) (by assumption) ?_; rotate_left
      ·(intro w hSw; (try dsimp only at hSw); (try simp only [p1, p2, p3]); go_simp; first | done | with_reducible rfl)
      (try simp only [Act.put, p1, p2, p3, p4, p5, p6])
      refine' tkk 5 rfl (by kernel_rfl) (fun _ _ _ h => h) (.inl ⟨by rfl, ?_⟩) (by assumption) ?_; rotate_left
      ·(intro w hSw; (try dsimp only at hSw); (try simp only [p1, p2, p3]); go_simp; first | done | with_reducible rfl)
      (try simp only [Act.put, p1, p2, p3, p4, p5, p6])
      refine tkk (v := undef) 6 rfl (by kernel_rfl) (fun _ _ _ h => h) (.inr ⟨by rfl, rfl⟩) (by assumption) ?_
      (try simp only [Act.put, p1, p2, p3, p4, p5, p6])
      refine tkk (v := undef) 7 rfl (by kernel_rfl) (fun _ _ _ h => h) (.inr ⟨by rfl, rfl⟩) (by assumption) ?_
      (try simp only [Act.put, p1, p2, p3, p4, p5, p6])
      refine tkk (v := undef) 8 rfl (by kernel_rfl) (fun _ _ _ h => h) (.inr ⟨by rfl, rfl⟩) (by assumption) ?_
      (try simp only [Act.put, p1, p2, p3, p4, p5, p6])
      refine tkk (v := undef) 9 rfl (by kernel_rfl) (fun _ _ _ h => h) (.inr ⟨by rfl, rfl⟩) (by assumption) ?_
      (try simp only [Act.put, p1, p2, p3, p4, p5, p6])
      refine tkk (v := undef) 10 rfl (by kernel_rfl) (fun _ _ _ h => h) (.inr ⟨by rfl, rfl⟩) (by assumption) ?_
      (try simp only [Act.put, p1, p2, p3, p4, p5, p6])
      refine tkk (v := undef) 11 rfl (by kernel_rfl) (fun _ _ _ h => h) (.inr ⟨by rfl, rfl⟩) (by assumption) ?_
      (try simp only [Act.put, p1, p2, p3, p4, p5, p6])
      refine' tkk 12 rfl (by kernel_rfl) (fun _ _ _ h => h) (.inl ⟨by rfl, ?_⟩) (by assumption) ?_; rotate_left
      ·(intro w hSw; (try dsimp only at hSw); (try simp only [p1, p2, p3]); go_simp; first | done | with_reducible rfl)
      (try simp only [Act.put, p1, p2, p3, p4, p5, p6])
      refine' tkk 13 rfl (by kernel_rfl) (fun _ _ _ h => h) (.inl ⟨by rfl, ?_⟩) (by assumption) ?_; rotate_left
      ·(intro w hSw; (try dsimp only at hSw); (try simp only [p1, p2, p3]); go_simp; first | done | with_reducible rfl)
      (try simp only [Act.put, p1, p2, p3, p4, p5, p6])
      refine' tkk 14 rfl (by kernel_rfl) (fun _ _ _ h => h) (.inl ⟨by rfl, ?_⟩) (by assumption) ?_; rotate_left
      ·(intro w hSw; (try dsimp only at hSw); (try simp only [p1, p2, p3]); go_simp; first | done | with_reducible rfl)
      (try simp only [Act.put, p1, p2, p3, p4, p5, p6])
      refine' tkk 15 rfl (by kernel_rfl) (fun _ _ _ h => h) (.inl ⟨by rfl, ?_⟩) (by assumption) ?_; rotate_left
      ·(intro w hSw; (try dsimp only at hSw); (try simp only [p1, p2, p3]); go_simp; first | done | with_reducible rfl)
      (try simp only [Act.put, p1, p2, p3, p4, p5, p6])
      refine' tkk 16 rfl (by kernel_rfl) (fun _ _ _ h => h) (.inl ⟨by rfl, ?_⟩) (by assumption) ?_; rotate_left
      ·(intro w hSw; (try dsimp only at hSw); (try simp only [p1, p2, p3]); go_simp; first | done | with_reducible rfl)
      (try simp only [Act.put, p1, p2, p3, p4, p5, p6])
      refine' tkk 17 rfl (by kernel_rfl) (fun _ _ _ h => h) (.inl ⟨by rfl, ?_⟩) (by assumption) ?_; rotate_left
      ·(intro w hSw; (try dsimp only at hSw); (try simp only [p1, p2, p3]); go_simp; first | done | with_reducible rfl)
      (try simp only [Act.put, p1, p2, p3, p4, p5, p6])
      refine wpAnyH_ready (rs := [18]) (by kernel_rfl) (by simp) ?_
      refine AllReadyH.cons rfl (fun K hK => ?_) AllReadyH.nil
      (try simp only [p1, p2, p3])
      go_simp
      have hk := And.right ‹_ ∧ Kp wr _›
      refine (TS.out _ hk).mono ?_
      rintro e v2 ⟨rfl, hbx⟩
      have hp := Kp.trans hk hbx
      clear hk hbx
      (try (go_wp2_with fail))
      refine hK.out _ _ ?k7 (fun hHeld7 => ?n7)
      case k7 => ((try dsimp only); first | (with_reducible refine HS.out _ ?_; with_reducible assumption) | (with_reducible refine HS.out _ (Kp.drew ?_); with_reducible assumption) | (with_reducible refine' HS.out _ (Kp.drew (And.right ?_)); rotate_left; with_reducible assumption))
      clear hK K
      (try simp only [Act.put, p1, p2, p3, p4, p5, p6])
      refine' tkk 19 rfl (by kernel_rfl) (fun _ _ _ h => h) (.inl ⟨by rfl, ?_⟩) (by assumption) ?_; rotate_left
      ·(intro w hSw; (try dsimp only at hSw); (try simp only [p1, p2, p3]); go_simp; first | done | with_reducible rfl)
      (try simp only [Act.put, p1, p2, p3, p4, p5, p6])
      refine' tkk 20 rfl (by kernel_rfl) (fun _ _ _ h => h) (.inl ⟨by rfl, ?_⟩) (by assumption) ?_; rotate_left
      ·(intro w hSw; (try dsimp only at hSw); (try simp only [p1, p2, p3]); go_simp; first | done | with_reducible rfl)
      (try simp only [Act.put, p1, p2, p3, p4, p5, p6])
      refine' tkk 21 rfl (by kernel_rfl) (fun _ _ _ h => h) (.inl ⟨by rfl, ?_⟩) (by assumption) ?_; rotate_left
      ·(intro w hSw; (try dsimp only at hSw); (try simp only [p1, p2, p3]); go_simp; first | done | with_reducible rfl)
      (try simp only [Act.put, p1, p2, p3, p4, p5, p6])
      refine tkk (v := undef) 22 rfl (by kernel_rfl) (fun _ _ _ h => h) (.inr ⟨by rfl, rfl⟩) (by assumption) ?_
      (try simp only [Act.put, p1, p2, p3, p4, p5, p6])
      refine tkk (v := undef) 23 rfl (by kernel_rfl) (fun _ _ _ h => h) (.inr ⟨by rfl, rfl⟩) (by assumption) ?_
      (try simp only [Act.put, p1, p2, p3, p4, p5, p6])
      refine tkk (v := undef) 24 rfl (by kernel_rfl) (fun _ _ _ h => h) (.inr ⟨by rfl, rfl⟩) (by assumption) ?_
      (try simp only [Act.put, p1, p2, p3, p4, p5, p6])
      refine tkk (v := undef) 25 rfl (by kernel_rfl) (fun _ _ _ h => h) (.inr ⟨by rfl, rfl⟩) (by assumption) ?_
      (try simp only [Act.put, p1, p2, p3, p4, p5, p6])
      refine tkk (v := undef) 26 rfl (by kernel_rfl) (fun _ _ _ h => h) (.inr ⟨by rfl, rfl⟩) (by assumption) ?_
      (try simp only [Act.put, p1, p2, p3, p4, p5, p6])
      refine tkk (v := undef) 27 rfl (by kernel_rfl) (fun _ _ _ h => h) (.inr ⟨by rfl, rfl⟩) (by assumption) ?_
      (try simp only [Act.put, p1, p2, p3, p4, p5, p6])
      refine tkk (v := undef) 28 rfl (by kernel_rfl) (fun _ _ _ h => h) (.inr ⟨by rfl, rfl⟩) (by assumption) ?_
      (try simp only [Act.put, p1, p2, p3, p4, p5, p6])
      refine tkk (v := undef) 29 rfl (by kernel_rfl) (fun _ _ _ h => h) (.inr ⟨by rfl, rfl⟩) (by assumption) ?_
      (try simp only [Act.put, p1, p2, p3, p4, p5, p6])
      refine tkk (v := undef) 30 rfl (by kernel_rfl) (fun _ _ _ h => h) (.inr ⟨by rfl, rfl⟩) (by assumption) ?_
      (try simp only [Act.put, p1, p2, p3, p4, p5, p6])
      refine tkk (v := undef) 31 rfl (by kernel_rfl) (fun _ _ _ h => h) (.inr ⟨by rfl, rfl⟩) (by assumption) ?_
      (try simp only [Act.put, p1, p2, p3, p4, p5, p6])
      refine tkk (v := undef) 32 rfl (by kernel_rfl) (fun _ _ _ h => h) (.inr ⟨by rfl, rfl⟩) (by assumption) ?_
      (try simp only [Act.put, p1, p2, p3, p4, p5, p6])
      refine tkk (v := undef) 33 rfl (by kernel_rfl) (fun _ _ _ h => h) (.inr ⟨by rfl, rfl⟩) (by assumption) ?_
      (try simp only [Act.put, p1, p2, p3, p4, p5, p6])
      refine tkk (v := undef) 34 rfl (by kernel_rfl) (fun _ _ _ h => h) (.inr ⟨by rfl, rfl⟩) (by assumption) ?_
      (try simp only [Act.put, p1, p2, p3, p4, p5, p6])
      refine tkk (v := undef) 35 rfl (by kernel_rfl) (fun _ _ _ h => h) (.inr ⟨by rfl, rfl⟩) (by assumption) ?_
      (try simp only [Act.put, p1, p2, p3, p4, p5, p6])
      refine tkk (v := undef) 36 rfl (by kernel_rfl) (fun _ _ _ h => h) (.inr ⟨by rfl, rfl⟩) (by assumption) ?_
      (try simp only [Act.put, p1, p2, p3, p4, p5, p6])
      refine tkk (v := undef) 37 rfl (by kernel_rfl) (fun _ _ _ h => h) (.inr ⟨by rfl, rfl⟩) (by assumption) ?_
      (try simp only [Act.put, p1, p2, p3, p4, p5, p6])
      refine tkk (v := undef) 38 rfl (by kernel_rfl) (fun _ _ _ h => h) (.inr ⟨by rfl, rfl⟩) (by assumption) ?_
      (try simp only [Act.put, p1, p2, p3, p4, p5, p6])
      refine' tkk 39 rfl (by kernel_rfl) (fun _ _ _ h => h) (.inl ⟨by rfl, ?_⟩) (by assumption) ?_; rotate_left
      ·(intro w hSw; (try dsimp only at hSw); (try simp only [p1, p2, p3]); go_simp; first | done | with_reducible rfl)
      (try simp only [Act.put, p1, p2, p3, p4, p5, p6])
      refine wpAnyH_done (by kernel_rfl) ?_ _
      have HF := Lib.hid (hB.out.trans (Below.mono hp hB.out.size))
      clear hp
      go_wp2
      go_roundw
      case rel => exact ⟨k + 1, 1, by omega, by first | rfl | go_num, by first | rfl | go_num, HF, Lib.hid ⟨fun h => absurd h (by decide), fun _ => HBD.out (by rw [HG.out, HSL.out]; rfl)⟩⟩
      case measure => simp [intOf]; omega
   ·obtain rfl : k = m := by omega
    have hrv := HEND.out (hX.out.1 rfl)
    have HR := Lib.hid hrv
    clear hX hrv HEND HMV HBD0
    by_cases h1 : need < 0
    ·have e1 : rv0 = 1 := by rw [HR.out, if_pos (.inl h1)]
     subst e1
     have d1 : decide (need < 0) = true := decide_eq_true h1
     clear h1 HR
     go_wp2_with fail
     go_ret
     exact ⟨rfl, hB.out⟩
    ·have d1 : decide (need < 0) = false := decide_eq_false h1
     by_cases h2 : 1000000 < need
     ·have e1 : rv0 = 1 := by rw [HR.out, if_pos (.inr h2)]
      subst e1
      have d2 : decide (1000000 < need) = true := decide_eq_true h2
      clear h1 h2 HR
      go_wp2_with fail
      go_ret
      exact ⟨rfl, hB.out⟩
     ·have e1 : rv0 = 0 := by rw [HR.out, if_neg (by omega)]
      subst e1
      have d2 : decide (1000000 < need) = false := decide_eq_false h2
      clear h1 h2 HR
      go_wp2_with fail
      go_ret
      exact ⟨rfl, hB.out⟩
  ·have hev2 := hX.out.2 hev
   subst hev2
   have hx1 : (ev == 0) = false := by simpa using hev
   have hx2 : decide (ev = 0) = false := by simpa using hev
   clear hX HEND HBD0 HMV hev
   by_cases hn0 : (k : Int) < (m : Int)
   ·go_wp2_with fail
    go_ret
    exact ⟨rfl, hB.out⟩
   ·go_wp2_with fail
    go_ret
    exact ⟨rfl, hB.out⟩

end Go.Proofs.YtodkhjihkkmplaaGreat
