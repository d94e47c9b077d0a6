/-
check of package reserve: the walk. No statement of the seat is proved here; no conditions beyond those of each theorem.
-/
import Derived.Test.YtodkhjihkkmplaaGreatLPO
import Derived.Test.YtodkhjihkkmplaaGreatLPN
import Derived.Deep.RegionWith
namespace Go.Proofs.YtodkhjihkkmplaaGreat
set_option linter.unusedVariables false
set_option linter.unusedSimpArgs false
open Go.RowKit
open Wd

theorem rchk_bad {us : List Un} {bs : List Bool} {qs : List Rat} {need : Int} {k : Nat} (he : echk us bs.length = 0) (hq : qs.length = us.length) (hk : k < us.length) (hb : gbad (us[k]?.getD U0) (bs[k]?.getD false) (qs[k]?.getD 0) = true) : rchk us bs qs need = 1 := by
 unfold rchk
 rw [if_neg (by simp [he]), if_neg (by simp [hq]), if_pos]
 intro hg
 rw [hg k hk] at hb
 exact absurd hb (by decide)
theorem rchk_good {us : List Un} {bs : List Bool} {qs : List Rat} {need : Int} (he : echk us bs.length = 0) (hq : qs.length = us.length) (hg : gokN us bs qs us.length) : rchk us bs qs need = if need < 0 ∨ 1000000 < need then 1 else 0 := by
 unfold rchk
 rw [if_neg (by simp [he]), if_neg (by simp [hq]), if_neg (by simp [hg])]

set_option maxRecDepth 100000 in
set_option maxHeartbeats 8000000 in
theorem rcheck_any (K : Nat) (hK : K ≤ 17) (A B C : Option Addr) (n c m d p pc : Nat) (us : List Un) (bs : List Bool) (qs : List Rat) (need : Int) (w : World) (h : UsAt w A n us) (h' : BsAt w B m bs) (hg : GsAt K w C p qs) (hm : n ≤ 1000000000000) (hm' : m ≤ 1000000000000) (hp : p ≤ 1000000000000) :
  Calls Tryz.prog 41 #[.slice A n c, .slice B m d, .slice C p pc, .int .i64 need] w fun e w' => e = .returned (.int .i64 (rchk us bs qs need)) ∧ Below w.heap.size w w' := by
 have T := echeck_any A B n c m d us bs w h h' hm hm'
 by_cases he : echk us m ≠ 0
 ·have er : rchk us bs qs need = echk us m := by unfold rchk; rw [h'.1, if_pos he]
  rw [er]
  generalize echk us m = x at *
  have hx : (x != 0) = true := by simpa using he
  have T := Lib.hid T
  clear he er h h' hg
  go_enter Tryz.func41, Tryz.ntmps41
  go_wp2_with fail
  refine T.out.mono ?_
  rintro e w1 ⟨rfl, hb1⟩
  go_wp2
  go_ret
  exact ⟨rfl, hb1⟩
 have he : echk us m = 0 := Decidable.not_not.1 he
 rw [he] at T
 by_cases hpn : p ≠ n
 ·have er : rchk us bs qs need = 3 := by unfold rchk; rw [h'.1, if_neg (by simp [he]), if_pos (by rw [hg.1, h.1]; exact hpn)]
  rw [er]
  have hx : ((p : Int) != (n : Int)) = true := by simp; omega
  have T := Lib.hid T
  clear he er h h' hg hpn
  go_enter Tryz.func41, Tryz.ntmps41
  go_wp2_with fail
  refine T.out.mono ?_
  rintro e w1 ⟨rfl, hb1⟩
  go_wp2
  go_ret
  exact ⟨rfl, hb1⟩
 have hpn : p = n := Decidable.not_not.1 hpn
 subst hpn
 obtain ⟨hn5, hmn, hok⟩ := echk_ok he
 obtain ⟨hl, hc⟩ := h
 obtain ⟨hl', hc'⟩ := h'
 obtain ⟨hl2, hc2⟩ := hg
 have hnm : m = p := by omega
 subst hnm
 have HC := Lib.hid hc
 have HC' := Lib.hid hc'
 have HG := Lib.hid hc2
 have heb : echk us bs.length = 0 := by rw [hl']; exact he
 have HBD0 := Lib.hid (fun (k : Nat) (hk : k < m) hb => rchk_bad (us := us) (bs := bs) (qs := qs) (need := need) heb (by omega) (show k < us.length by omega) hb)
 have HEND := Lib.hid (fun (hgk : gokN us bs qs m) => rchk_good (us := us) (bs := bs) (qs := qs) (need := need) heb (by omega) (by rw [hl]; exact hgk))
 have HMV := Lib.hid (fun (k : Nat) (hk : k < m) b => mostV_bd he (j := k) (by omega) b)
 have hn : m ≤ 5 := by omega
 have T := Lib.hid T
 clear he heb hn5 hmn hok hl hl' hl2 hc hc' hc2 hm hm' hp
 generalize hrv : rchk us bs qs need = rv at *
 clear hrv
 go_enter Tryz.func41, Tryz.ntmps41
 go_wp2_with fail
 refine T.out.mono ?_
 rintro e w1 ⟨rfl, hb1⟩
 have HB1 := Lib.hid hb1
 clear hb1 T
 go_wp2_with fail
 go_loopw [26] (fun t wr => ∃ k : Nat, k ≤ m ∧ t = .int .i64 k ∧ Hid (Below w.heap.size w wr ∧ gokN us bs qs k)) (fun t _ => m - (intOf t).toNat)
 case atStart => exact ⟨0, Nat.zero_le _, rfl, Lib.hid ⟨HB1.out, fun j hj => absurd hj (by omega)⟩⟩
 case round =>
  obtain ⟨k, hk, rfl, hX⟩ := hrel
  by_cases hlt : k < m
  ·obtain ⟨b, o, rfl, hb, hcell⟩ := HC.out (by omega)
   obtain ⟨b', o', rfl, hb', hcell'⟩ := HC'.out (by omega)
   obtain ⟨b2, o2, rfl, hb2, hcell2⟩ := HG.out (by omega)
   obtain ⟨hB, hG⟩ := hX.out
   have hu := (hcell k hlt).below hb hB
   have hon := (hB.cell (p := ⟨b', o' + k, none⟩) hb').trans (hcell' k hlt)
   obtain ⟨an, aA, ak, ac, an', aA', ak', ac', g1, g2, g3, g4, hq⟩ := hcell2 k hlt
   have g1 := (hB.cell (p := ⟨b2, o2 + k * 4, none⟩) hb2).trans g1
   have g2 := (hB.cell (p := ⟨b2, o2 + k * 4 + 1, none⟩) hb2).trans g2
   have g3 := (hB.cell (p := ⟨b2, o2 + k * 4 + 2, none⟩) hb2).trans g3
   have g4 := (hB.cell (p := ⟨b2, o2 + k * 4 + 3, none⟩) hb2).trans g4
   have hq := hq.below hB
   have HN := Lib.hid (fun hh => hG.succ hh)
   have HBD := Lib.hid (fun hh => HBD0.out k hlt hh)
   obtain ⟨mv1, mv2⟩ := HMV.out k hlt (bs[k]?.getD false)
   clear hX hG
   generalize bs[k]?.getD false = bk at *
   generalize us[k]?.getD U0 = u at *
   generalize qs[k]?.getD 0 = q at *
   have hgb : gbad u bk q = (decide (sgnQ q < 0) || decide (0 < cmpQ q (mostV bk u : Rat))) := rfl
   rw [hgb] at HN HBD
   clear hgb
   have hmu : mostV bk u = if bk then umax u else 0 := rfl
   rw [hmu] at mv1 mv2 HN HBD
   clear hmu
   obtain ⟨bus, mn, st, up, dn, start, idle, spin, on⟩ := u
   obtain ⟨A', n', c', ⟨h0, h1, h2, h3, h4, h5', h6, h7, h8⟩, hs, hn'⟩ := hu
   simp only at h0 h1 h2 h3 h4 h5' h6 h7 h8 hs
   have hbr : b < wr.heap.size := Nat.lt_of_lt_of_le hb hB.size
   have hbr' : b' < wr.heap.size := Nat.lt_of_lt_of_le hb' hB.size
   have hbr2 : b2 < wr.heap.size := Nat.lt_of_lt_of_le hb2 hB.size
   have T := fun W hW => umax_raw bus mn up dn start idle spin on A' n' c' st W hW hn'
   have hblk := Blk.new wr 48 #[.int .i64 bus, .int .i64 mn, .slice A' n' c', .int .i64 up, .int .i64 dn, .int .i64 start, .int .i64 idle, .int .i64 spin, .int .i64 on]
   have hal := (Below.refl wr.heap.size wr).alloc (Nat.le_refl _) (.cells #[.int .i64 bus, .int .i64 mn, .slice A' n' c', .int .i64 up, .int .i64 dn, .int .i64 start, .int .i64 idle, .int .i64 spin, .int .i64 on] 48)
   have hs9 := hs.below hal
   have hb9 := hB.alloc hB.size (.cells #[.int .i64 bus, .int .i64 mn, .slice A' n' c', .int .i64 up, .int .i64 dn, .int .i64 start, .int .i64 idle, .int .i64 spin, .int .i64 on] 48)
   have hon9 : (wr.alloc (.cells #[.int .i64 bus, .int .i64 mn, .slice A' n' c', .int .i64 up, .int .i64 dn, .int .i64 start, .int .i64 idle, .int .i64 spin, .int .i64 on] 48)).cell? ⟨b', o' + k, none⟩ = some (.bool bk) := by
    rw [World.cell?_alloc_past _ _ _ hbr']; exact hon
   have g1 := (hal.cell (p := ⟨b2, o2 + k * 4, none⟩) hbr2).trans g1
   have g2 := (hal.cell (p := ⟨b2, o2 + k * 4 + 1, none⟩) hbr2).trans g2
   have g3 := (hal.cell (p := ⟨b2, o2 + k * 4 + 2, none⟩) hbr2).trans g3
   have g4 := (hal.cell (p := ⟨b2, o2 + k * 4 + 3, none⟩) hbr2).trans g4
   have hq := hq.below hal
   have hbx : b2 < (wr.alloc (.cells #[.int .i64 bus, .int .i64 mn, .slice A' n' c', .int .i64 up, .int .i64 dn, .int .i64 start, .int .i64 idle, .int .i64 spin, .int .i64 on] 48)).heap.size := Nat.lt_of_lt_of_le hbr2 hal.size
   generalize umax ⟨bus, mn, st, up, dn, start, idle, spin, on⟩ = um at *
   have HB9 := Lib.hid hb9
   have HS9 := Lib.hid hs9
   have T := Lib.hid T
   have hki : (0 : Int) ≤ (k : Int) ∧ (k : Int) < (m : Int) := by omega
   obtain ⟨hki1, hki2⟩ := hki
   clear hb9 hs9 hcell hcell' hcell2 hal hB hon hb hb' hb2 HC HC' HG HMV HEND HBD0 HB1
   cases bk
   ·simp only [Bool.false_eq_true, if_false] at mv1 mv2 HN HBD
    clear hblk T hs HS9
    have s5 := Kp.refl (wr.alloc (.cells #[.int .i64 bus, .int .i64 mn, .slice A' n' c', .int .i64 up, .int .i64 dn, .int .i64 start, .int .i64 idle, .int .i64 spin, .int .i64 on] 48))
    go_wp2_with fail
    generalize wr.alloc (.cells #[.int .i64 bus, .int .i64 mn, .slice A' n' c', .int .i64 up, .int .i64 dn, .int .i64 start, .int .i64 idle, .int .i64 spin, .int .i64 on] 48) = W2 at *
    have SG := Lib.hid (fun (W : World) (hW : Kp W2 W) => sign_k (hq.below hW))
    have FI := Lib.hid (fun W => qfromInt64_any (0) W (by omega) (by omega))
    have HCM := Lib.hid (fun (W : World) (hW : Kp W2 W) (B B' : Option Addr) (k d k' d' : Nat) (h1 : k ≤ d) (h2 : k' ≤ d') (h3 : Wat W B k (digs (((0 : Int) : Rat)).num.natAbs)) (h4 : Wat W B' k' (denW (((0 : Int) : Rat)).den)) => cmp_k (hq.below hW) (wat_qk h1 h2 h3 h4 (lv_int K (by omega)) (by omega)))
    generalize hqz : ((0 : Int) : Rat) = qz at *
    generalize sgnQ q = sq at *
    generalize cmpQ q qz = cq at *
    clear hq hqz
    rcases Bool.eq_false_or_eq_true (decide (sq < 0)) with hsg | hsg
    ·have y1 := fun s : KW W2 => (Below.cell s.h (p := ⟨b2, o2 + k * 4, none⟩) hbx).trans g1
     have y2 := fun s : KW W2 => (Below.cell s.h (p := ⟨b2, o2 + k * 4 + 1, none⟩) hbx).trans g2
     have y3 := fun s : KW W2 => (Below.cell s.h (p := ⟨b2, o2 + k * 4 + 2, none⟩) hbx).trans g3
     have y4 := fun s : KW W2 => (Below.cell s.h (p := ⟨b2, o2 + k * 4 + 3, none⟩) hbx).trans g4
     try simp only [List.append_eq, List.cons_append, List.nil_append]
     refine wp_region_kw (W := W2) (by kernel_rfl) (by kernel_rfl) ?_
     repeat (go_big_quiet_step ((go_at_call 27; exact kw_call (SG.out _ (KW.h _)))))
     refine wpQuiet_nil ?_
     intro v1 hw1
     have hr1 : Kp W2 v1 := by obtain ⟨s, rfl⟩ := hw1; exact s.h
     clear hw1 y1 y2 y3 y4
     have hfin : Below w.heap.size w v1 := HB9.out.trans (Below.mono hr1 HB9.out.size)
     have hb1 := HBD.out (by rw [hsg]; rfl)
     have HR := Lib.hid hb1
     have HF := Lib.hid hfin
     clear hb1 HBD HN hfin
     go_wp2
     go_ret
     exact ⟨by rw [HR.out]; first | done | rfl, HF.out⟩
    ·rcases Bool.eq_false_or_eq_true (decide (0 < cq)) with hcm | hcm
     ·have hS : ∀ w', Kp W2 w' → (w'.cell? ⟨b2, o2 + k * 4, none⟩ = some (.bool an) ∧ w'.cell? ⟨b2, o2 + k * 4 + 1, none⟩ = some (.slice aA ak ac) ∧ w'.cell? ⟨b2, o2 + k * 4 + 2, none⟩ = some (.bool an') ∧ w'.cell? ⟨b2, o2 + k * 4 + 3, none⟩ = some (.slice aA' ak' ac')) ∧ Kp W2 w' := fun w' hk => ⟨⟨(Below.cell hk hbx).trans g1, (Below.cell hk hbx).trans g2, (Below.cell hk hbx).trans g3, (Below.cell hk hbx).trans g4⟩, hk⟩
      have HS := Lib.hid hS
      clear hS g1 g2 g3 g4
      go_region_held3 (fun w' => (w'.cell? ⟨b2, o2 + k * 4, none⟩ = some (.bool an) ∧ w'.cell? ⟨b2, o2 + k * 4 + 1, none⟩ = some (.slice aA ak ac) ∧ w'.cell? ⟨b2, o2 + k * 4 + 2, none⟩ = some (.bool an') ∧ w'.cell? ⟨b2, o2 + k * 4 + 3, none⟩ = some (.slice aA' ak' ac')) ∧ Kp W2 w')
       (first | (with_reducible refine HS.out _ ?_; with_reducible assumption) | (with_reducible refine HS.out _ (Kp.drew ?_); with_reducible assumption) | (with_reducible refine' HS.out _ (Kp.drew (And.right ?_)); rotate_left; with_reducible assumption))
       (first
        | (go_at_call 27; have hk := And.right ‹_ ∧ Kp W2 _›; refine (SG.out _ hk).mono ?_; rintro e v1 ⟨rfl, hb1⟩; have hr1 := hk.trans hb1; clear hb1)
        | (go_at_call 29; have hk := And.right ‹_ ∧ Kp W2 _›; refine (FI.out _).mono ?_; rintro e v3 ⟨A3, k3, c3, A4, k4, c4, rfl, hk3, hk4, hW3, hW4, hF3, hF4, hb3⟩; have hr3 := hk.trans hb3; clear hb3)
        | (go_at_call 26; have hk := And.right ‹_ ∧ Kp W2 _›; refine (HCM.out _ hk A3 A4 k3 c3 k4 c4 hk3 hk4 hW3 hW4).mono ?_; rintro e v4 ⟨rfl, hb4⟩; have hr4 := hk.trans hb4; clear hb4))
      rename_i hHeld
      clear hHeld
      have hfin : Below w.heap.size w v4 := HB9.out.trans (Below.mono hr4 HB9.out.size)
      have hb1 := HBD.out (by rw [hsg, hcm]; rfl)
      have HR := Lib.hid hb1
      have HF := Lib.hid hfin
      clear hb1 HBD HN hfin
      go_wp2
      go_ret
      exact ⟨by rw [HR.out]; first | done | rfl, HF.out⟩
     ·have hS : ∀ w', Kp W2 w' → (w'.cell? ⟨b2, o2 + k * 4, none⟩ = some (.bool an) ∧ w'.cell? ⟨b2, o2 + k * 4 + 1, none⟩ = some (.slice aA ak ac) ∧ w'.cell? ⟨b2, o2 + k * 4 + 2, none⟩ = some (.bool an') ∧ w'.cell? ⟨b2, o2 + k * 4 + 3, none⟩ = some (.slice aA' ak' ac')) ∧ Kp W2 w' := fun w' hk => ⟨⟨(Below.cell hk hbx).trans g1, (Below.cell hk hbx).trans g2, (Below.cell hk hbx).trans g3, (Below.cell hk hbx).trans g4⟩, hk⟩
      have HS := Lib.hid hS
      clear hS g1 g2 g3 g4
      go_region_held3 (fun w' => (w'.cell? ⟨b2, o2 + k * 4, none⟩ = some (.bool an) ∧ w'.cell? ⟨b2, o2 + k * 4 + 1, none⟩ = some (.slice aA ak ac) ∧ w'.cell? ⟨b2, o2 + k * 4 + 2, none⟩ = some (.bool an') ∧ w'.cell? ⟨b2, o2 + k * 4 + 3, none⟩ = some (.slice aA' ak' ac')) ∧ Kp W2 w')
       (first | (with_reducible refine HS.out _ ?_; with_reducible assumption) | (with_reducible refine HS.out _ (Kp.drew ?_); with_reducible assumption) | (with_reducible refine' HS.out _ (Kp.drew (And.right ?_)); rotate_left; with_reducible assumption))
       (first
        | (go_at_call 27; have hk := And.right ‹_ ∧ Kp W2 _›; refine (SG.out _ hk).mono ?_; rintro e v1 ⟨rfl, hb1⟩; have hr1 := hk.trans hb1; clear hb1)
        | (go_at_call 29; have hk := And.right ‹_ ∧ Kp W2 _›; refine (FI.out _).mono ?_; rintro e v3 ⟨A3, k3, c3, A4, k4, c4, rfl, hk3, hk4, hW3, hW4, hF3, hF4, hb3⟩; have hr3 := hk.trans hb3; clear hb3)
        | (go_at_call 26; have hk := And.right ‹_ ∧ Kp W2 _›; refine (HCM.out _ hk A3 A4 k3 c3 k4 c4 hk3 hk4 hW3 hW4).mono ?_; rintro e v4 ⟨rfl, hb4⟩; have hr4 := hk.trans hb4; clear hb4))
      rename_i hHeld
      clear hHeld
      have hfin : Below w.heap.size w v4 := HB9.out.trans (Below.mono hr4 HB9.out.size)
      have HF := Lib.hid hfin
      have hg9 := Lib.hid (HN.out (by rw [hsg, hcm]; rfl))
      clear hfin HBD HN hk3 hk4 hW3 hW4 hF3 hF4 hr1 hr3 hr4 HS SG FI HCM
      go_wp2
      go_roundw
      case rel => exact ⟨k + 1, by omega, by go_num, Lib.hid ⟨HF.out, hg9.out⟩⟩
      case measure => simp [intOf]; omega
   ·simp only [if_true] at mv1 mv2 HN HBD
    obtain ⟨e0, e1, e2, e3, e4, e5, e6, e7, e8⟩ := hblk.nine
    clear hblk
    go_wp2_with fail
    refine (T.out _ HS9.out).mono ?_
    rintro e w2 ⟨rfl, hb2⟩
    have HB9 := Lib.hid (HB9.out.trans (hb2.mono HB9.out.size))
    have g1 := (hb2.cell (p := ⟨b2, o2 + k * 4, none⟩) hbx).trans g1
    have g2 := (hb2.cell (p := ⟨b2, o2 + k * 4 + 1, none⟩) hbx).trans g2
    have g3 := (hb2.cell (p := ⟨b2, o2 + k * 4 + 2, none⟩) hbx).trans g3
    have g4 := (hb2.cell (p := ⟨b2, o2 + k * 4 + 3, none⟩) hbx).trans g4
    have hq := hq.below hb2
    have hbx : b2 < w2.heap.size := Nat.lt_of_lt_of_le hbx hb2.size
    clear hb2 h0 h1 h2 h3 h4 h5' h6 h7 h8 e0 e1 e2 e3 e4 e5 e6 e7 e8 hon9 T HS9 hs
    have s5 := Kp.refl w2
    go_wp2_with fail
    have SG := Lib.hid (fun (W : World) (hW : Kp w2 W) => sign_k (hq.below hW))
    have FI := Lib.hid (fun W => qfromInt64_any (um) W (by omega) (by omega))
    have HCM := Lib.hid (fun (W : World) (hW : Kp w2 W) (B B' : Option Addr) (k d k' d' : Nat) (h1 : k ≤ d) (h2 : k' ≤ d') (h3 : Wat W B k (digs (((um : Int) : Rat)).num.natAbs)) (h4 : Wat W B' k' (denW (((um : Int) : Rat)).den)) => cmp_k (hq.below hW) (wat_qk h1 h2 h3 h4 (lv_int K (by omega)) (by omega)))
    generalize hqz : ((um : Int) : Rat) = qz at *
    generalize sgnQ q = sq at *
    generalize cmpQ q qz = cq at *
    clear hq hqz
    rcases Bool.eq_false_or_eq_true (decide (sq < 0)) with hsg | hsg
    ·have y1 := fun s : KW w2 => (Below.cell s.h (p := ⟨b2, o2 + k * 4, none⟩) hbx).trans g1
     have y2 := fun s : KW w2 => (Below.cell s.h (p := ⟨b2, o2 + k * 4 + 1, none⟩) hbx).trans g2
     have y3 := fun s : KW w2 => (Below.cell s.h (p := ⟨b2, o2 + k * 4 + 2, none⟩) hbx).trans g3
     have y4 := fun s : KW w2 => (Below.cell s.h (p := ⟨b2, o2 + k * 4 + 3, none⟩) hbx).trans g4
     try simp only [List.append_eq, List.cons_append, List.nil_append]
     refine wp_region_kw (W := w2) (by kernel_rfl) (by kernel_rfl) ?_
     repeat (go_big_quiet_step ((go_at_call 27; exact kw_call (SG.out _ (KW.h _)))))
     refine wpQuiet_nil ?_
     intro v1 hw1
     have hr1 : Kp w2 v1 := by obtain ⟨s, rfl⟩ := hw1; exact s.h
     clear hw1 y1 y2 y3 y4
     have hfin : Below w.heap.size w v1 := HB9.out.trans (Below.mono hr1 HB9.out.size)
     have hb1 := HBD.out (by rw [hsg]; rfl)
     have HR := Lib.hid hb1
     have HF := Lib.hid hfin
     clear hb1 HBD HN hfin
     go_wp2
     go_ret
     exact ⟨by rw [HR.out]; first | done | rfl, HF.out⟩
    ·rcases Bool.eq_false_or_eq_true (decide (0 < cq)) with hcm | hcm
     ·have hS : ∀ w', Kp w2 w' → (w'.cell? ⟨b2, o2 + k * 4, none⟩ = some (.bool an) ∧ w'.cell? ⟨b2, o2 + k * 4 + 1, none⟩ = some (.slice aA ak ac) ∧ w'.cell? ⟨b2, o2 + k * 4 + 2, none⟩ = some (.bool an') ∧ w'.cell? ⟨b2, o2 + k * 4 + 3, none⟩ = some (.slice aA' ak' ac')) ∧ Kp w2 w' := fun w' hk => ⟨⟨(Below.cell hk hbx).trans g1, (Below.cell hk hbx).trans g2, (Below.cell hk hbx).trans g3, (Below.cell hk hbx).trans g4⟩, hk⟩
      have HS := Lib.hid hS
      clear hS g1 g2 g3 g4
      go_region_held3 (fun w' => (w'.cell? ⟨b2, o2 + k * 4, none⟩ = some (.bool an) ∧ w'.cell? ⟨b2, o2 + k * 4 + 1, none⟩ = some (.slice aA ak ac) ∧ w'.cell? ⟨b2, o2 + k * 4 + 2, none⟩ = some (.bool an') ∧ w'.cell? ⟨b2, o2 + k * 4 + 3, none⟩ = some (.slice aA' ak' ac')) ∧ Kp w2 w')
       (first | (with_reducible refine HS.out _ ?_; with_reducible assumption) | (with_reducible refine HS.out _ (Kp.drew ?_); with_reducible assumption) | (with_reducible refine' HS.out _ (Kp.drew (And.right ?_)); rotate_left; with_reducible assumption))
       (first
        | (go_at_call 27; have hk := And.right ‹_ ∧ Kp w2 _›; refine (SG.out _ hk).mono ?_; rintro e v1 ⟨rfl, hb1⟩; have hr1 := hk.trans hb1; clear hb1)
        | (go_at_call 29; have hk := And.right ‹_ ∧ Kp w2 _›; refine (FI.out _).mono ?_; rintro e v3 ⟨A3, k3, c3, A4, k4, c4, rfl, hk3, hk4, hW3, hW4, hF3, hF4, hb3⟩; have hr3 := hk.trans hb3; clear hb3)
        | (go_at_call 26; have hk := And.right ‹_ ∧ Kp w2 _›; refine (HCM.out _ hk A3 A4 k3 c3 k4 c4 hk3 hk4 hW3 hW4).mono ?_; rintro e v4 ⟨rfl, hb4⟩; have hr4 := hk.trans hb4; clear hb4))
      rename_i hHeld
      clear hHeld
      have hfin : Below w.heap.size w v4 := HB9.out.trans (Below.mono hr4 HB9.out.size)
      have hb1 := HBD.out (by rw [hsg, hcm]; rfl)
      have HR := Lib.hid hb1
      have HF := Lib.hid hfin
      clear hb1 HBD HN hfin
      go_wp2
      go_ret
      exact ⟨by rw [HR.out]; first | done | rfl, HF.out⟩
     ·have hS : ∀ w', Kp w2 w' → (w'.cell? ⟨b2, o2 + k * 4, none⟩ = some (.bool an) ∧ w'.cell? ⟨b2, o2 + k * 4 + 1, none⟩ = some (.slice aA ak ac) ∧ w'.cell? ⟨b2, o2 + k * 4 + 2, none⟩ = some (.bool an') ∧ w'.cell? ⟨b2, o2 + k * 4 + 3, none⟩ = some (.slice aA' ak' ac')) ∧ Kp w2 w' := fun w' hk => ⟨⟨(Below.cell hk hbx).trans g1, (Below.cell hk hbx).trans g2, (Below.cell hk hbx).trans g3, (Below.cell hk hbx).trans g4⟩, hk⟩
      have HS := Lib.hid hS
      clear hS g1 g2 g3 g4
      go_region_held3 (fun w' => (w'.cell? ⟨b2, o2 + k * 4, none⟩ = some (.bool an) ∧ w'.cell? ⟨b2, o2 + k * 4 + 1, none⟩ = some (.slice aA ak ac) ∧ w'.cell? ⟨b2, o2 + k * 4 + 2, none⟩ = some (.bool an') ∧ w'.cell? ⟨b2, o2 + k * 4 + 3, none⟩ = some (.slice aA' ak' ac')) ∧ Kp w2 w')
       (first | (with_reducible refine HS.out _ ?_; with_reducible assumption) | (with_reducible refine HS.out _ (Kp.drew ?_); with_reducible assumption) | (with_reducible refine' HS.out _ (Kp.drew (And.right ?_)); rotate_left; with_reducible assumption))
       (first
        | (go_at_call 27; have hk := And.right ‹_ ∧ Kp w2 _›; refine (SG.out _ hk).mono ?_; rintro e v1 ⟨rfl, hb1⟩; have hr1 := hk.trans hb1; clear hb1)
        | (go_at_call 29; have hk := And.right ‹_ ∧ Kp w2 _›; refine (FI.out _).mono ?_; rintro e v3 ⟨A3, k3, c3, A4, k4, c4, rfl, hk3, hk4, hW3, hW4, hF3, hF4, hb3⟩; have hr3 := hk.trans hb3; clear hb3)
        | (go_at_call 26; have hk := And.right ‹_ ∧ Kp w2 _›; refine (HCM.out _ hk A3 A4 k3 c3 k4 c4 hk3 hk4 hW3 hW4).mono ?_; rintro e v4 ⟨rfl, hb4⟩; have hr4 := hk.trans hb4; clear hb4))
      rename_i hHeld
      clear hHeld
      have hfin : Below w.heap.size w v4 := HB9.out.trans (Below.mono hr4 HB9.out.size)
      have HF := Lib.hid hfin
      have hg9 := Lib.hid (HN.out (by rw [hsg, hcm]; rfl))
      clear hfin HBD HN hk3 hk4 hW3 hW4 hF3 hF4 hr1 hr3 hr4 HS SG FI HCM
      go_wp2
      go_roundw
      case rel => exact ⟨k + 1, by omega, by go_num, Lib.hid ⟨HF.out, hg9.out⟩⟩
      case measure => simp [intOf]; omega
  ·obtain rfl : k = m := by omega
   obtain ⟨hB, hG⟩ := hX.out
   have hrv := HEND.out hG
   have HF := Lib.hid hB
   clear hX hG hB HEND HMV HBD0 HC HC' HG HB1
   by_cases hn1 : need < 0
   ·have hx : decide (need < 0) = true := by simpa using hn1
    rw [if_pos (Or.inl hn1)] at hrv
    have HR := Lib.hid hrv
    clear hn1 hrv
    go_wp2
    go_ret
    exact ⟨by rw [HR.out]; first | done | rfl, HF.out⟩
   ·by_cases hn2 : 1000000 < need
    ·have hx : decide (need < 0) = false := by simpa using hn1
     have hx2 : decide (1000000 < need) = true := by simpa using hn2
     rw [if_pos (Or.inr hn2)] at hrv
     have HR := Lib.hid hrv
     clear hn1 hn2 hrv
     go_wp2
     go_ret
     exact ⟨by rw [HR.out]; first | done | rfl, HF.out⟩
    ·have hx : decide (need < 0) = false := by simpa using hn1
     have hx2 : decide (1000000 < need) = false := by simpa using hn2
     rw [if_neg (by omega)] at hrv
     have HR := Lib.hid hrv
     clear hn1 hn2 hrv
     go_wp2
     go_ret
     exact ⟨by rw [HR.out]; first | done | rfl, HF.out⟩

end Go.Proofs.YtodkhjihkkmplaaGreat
