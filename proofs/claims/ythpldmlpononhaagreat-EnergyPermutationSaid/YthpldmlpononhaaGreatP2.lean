/-
The statement EnergyPermutation: the walk. No statement of the seat is proved here; no conditions beyond those of each theorem.
-/
import Derived.Test.YthpldmlpononhaaGreatP1
import Derived.Deep.DeepCutAuto
namespace Go.Proofs.YthpldmlpononhaaGreat
set_option linter.unusedVariables false
set_option linter.unusedSimpArgs false
open Go.RowKit
open Wd
open En (Pc PU)

/-- The two rows as the loop turns. -/
def PR (w W0 : World) (us : List Un) (bs : List Bool) (i : Nat) (wr : World) (Au : Option Addr) (cu : Nat) (Ao : Option Addr) (co : Nat) : Prop :=
  Below W0.heap.size W0 wr ∧ (∃ L, Own W0.heap.size 48 9 wr Au i cu L ∧ UL w (us.take i) L) ∧ Own W0.heap.size 4 1 wr Ao i co ((bs.take i).map Value.bool)

set_option maxRecDepth 100000 in
set_option maxHeartbeats 8000000 in
theorem perm_good (A B : Option Addr) (n c m d : Nat) (us : List Un) (bs : List Bool) (f : Int) (bus mn up dn start idle spin on : Int) (A' : Option Addr) (n' c' : Nat) (l : List (Int × Int)) (k : Nat) (hk : k < 256) (w : World) (h : UsRaw w A n us) (h' : BsAt w B m bs) (hs : StAt w A' n' l) (hlg : longB us m = false) (hlg2 : longB [⟨bus, mn, l, up, dn, start, idle, spin, on⟩] 0 = false) (he : echk us m = 0) : Calls Tryz.prog 16 #[.slice A n c, .slice B m d, .int .i64 f, .int .u8 (k : Int), .agg #[.int .i64 bus, .int .i64 mn, .slice A' n' c', .int .i64 up, .int .i64 dn, .int .i64 start, .int .i64 idle, .int .i64 spin, .int .i64 on]] w fun e w' => e = .returned (.bool true) ∧ Below w.heap.size w w' := by
  obtain rfl : n = m := by
    have e1 := (echk_ok he).2.1
    have e2 := h.1
    omega
  have T1 := fun W (hW : Below w.heap.size w W) => long28_any A B n c n d us bs W (h.below hW) h'.1
  rw [hlg] at T1
  have HL1 := Lib.hid T1
  have HAW := Lib.hid (fun W => awake28_any W)
  have HSS := Lib.hid hs
  obtain ⟨hU, hn30, hm30⟩ := h.at (m := n) hlg
  have hn20 : n' ≤ 20 := by
    unfold longB at hlg2
    simp [longL] at hlg2
    have := hs.1
    omega
  have HCK := Lib.hid (fun W (hW : Below w.heap.size w W) => ucheck_raw bus 0 up dn start idle spin on A' n' c' l W (hs.below hW) (by omega))
  have HEC := Lib.hid (fun W (hW : Below w.heap.size w W) => echeck_any A B n c n d us bs W (hU.below hW) (h'.below hW) (by omega) (by omega))
  rw [he] at HEC
  have HU := Lib.hid hU
  have HB' := Lib.hid h'
  have HE := Lib.hid he
  have HLC1 := Lib.hid (fun W (hW : Below w.heap.size w W) => elc_any A B n c n d us bs f W (hU.below hW) (h'.below hW) (by omega) (by omega))
  have hn5 : n ≤ 5 := by
    have e1 := (echk_ok he).1
    have e2 := h.1
    omega
  clear h h' hs T1 hlg hU he hn30 hm30
  go_enter Tryz.func16, Tryz.ntmps16
  go_wp2_with fail
  have hB0 := Blk.new w 48 #[.int .i64 bus, .int .i64 mn, .slice A' n' c', .int .i64 up, .int .i64 dn, .int .i64 start, .int .i64 idle, .int .i64 spin, .int .i64 on]
  have hBW : Below w.heap.size w (w.alloc (.cells #[.int .i64 bus, .int .i64 mn, .slice A' n' c', .int .i64 up, .int .i64 dn, .int .i64 start, .int .i64 idle, .int .i64 spin, .int .i64 on] 48)) := (Below.refl _ _).alloc (Nat.le_refl _) _
  have hsz : (w.alloc (.cells #[.int .i64 bus, .int .i64 mn, .slice A' n' c', .int .i64 up, .int .i64 dn, .int .i64 start, .int .i64 idle, .int .i64 spin, .int .i64 on] 48)).heap.size = w.heap.size + 1 := by simp
  generalize w.alloc (.cells #[.int .i64 bus, .int .i64 mn, .slice A' n' c', .int .i64 up, .int .i64 dn, .int .i64 start, .int .i64 idle, .int .i64 spin, .int .i64 on] 48) = W at *
  have HSZ := Lib.hid hsz
  clear hsz
  refine (HL1.out W hBW).mono ?_
  rintro e w1 ⟨rfl, rfl⟩
  clear HL1
  obtain ⟨y0, y1, y2, y3, y4, y5, y6, y7, y8⟩ := hB0.nine
  have hU2 := one_us (Blk.new W 48 #[.int .i64 bus, .int .i64 mn, .slice A' n' c', .int .i64 up, .int .i64 dn, .int .i64 start, .int .i64 idle, .int .i64 spin, .int .i64 on]) ((HSS.out.below hBW).below ((Below.refl _ _).alloc (Nat.le_refl _) (.cells #[.int .i64 bus, .int .i64 mn, .slice A' n' c', .int .i64 up, .int .i64 dn, .int .i64 start, .int .i64 idle, .int .i64 spin, .int .i64 on] 48)))
  have T2 := long28_any (some ⟨W.heap.size, 0, none⟩) none 1 1 0 0 [⟨bus, mn, l, up, dn, start, idle, spin, on⟩] [] _ hU2 rfl
  rw [hlg2] at T2
  clear hlg2
  have HT2 := Lib.hid T2
  have hB1 := hB0.alloc (.cells #[.int .i64 bus, .int .i64 mn, .slice A' n' c', .int .i64 up, .int .i64 dn, .int .i64 start, .int .i64 idle, .int .i64 spin, .int .i64 on] 48)
  have hBV := hBW.trans (((Below.refl W.heap.size W).alloc (Nat.le_refl _) (.cells #[.int .i64 bus, .int .i64 mn, .slice A' n' c', .int .i64 up, .int .i64 dn, .int .i64 start, .int .i64 idle, .int .i64 spin, .int .i64 on] 48)).mono hBW.size)
  clear T2 hU2 hB0
  go_wp2_with fail
  refine HT2.out.mono ?_
  rintro e w1 ⟨rfl, rfl⟩
  clear HT2 y0 y1 y2 y3 y4 y5 y6 y7 y8
  have hBV := Lib.hid hBV
  generalize W.alloc (.cells #[.int .i64 bus, .int .i64 mn, .slice A' n' c', .int .i64 up, .int .i64 dn, .int .i64 start, .int .i64 idle, .int .i64 spin, .int .i64 on] 48) = V at *
  clear hBW HSZ
  obtain ⟨y0, y1, y2, y3, y4, y5, y6, y7, y8⟩ := hB1.nine
  go_wp2_with fail
  refine (HEC.out V hBV.out).mono ?_
  rintro e v1 ⟨rfl, hb1⟩
  have HB1 := Lib.hid (hBV.out.trans (hb1.mono hBV.out.size))
  have hB2 := hB1.below hb1 hB1.lt
  clear hb1 HEC y0 y1 y2 y3 y4 y5 y6 y7 y8 hB1
  go_wp2_with fail
  refine (HAW.out v1).mono ?_
  rintro e v2 ⟨rfl, hb2⟩
  have HB2 := Lib.hid (HB1.out.trans (hb2.mono HB1.out.size))
  have hB3 := hB2.below hb2 hB2.lt
  have HB3 := Lib.hid hB3
  clear hb2 hB2 HAW HB1 hB3
  go_wp2_with fail
  obtain ⟨iu, hiu, hz0, hz1, hz2⟩ := info_parts pinfo_unit
  obtain ⟨ib, hib, hy0, hy1, hy2⟩ := info_parts pinfo_bool
  have HI := Lib.hid hiu
  have HZ0 := Lib.hid hz0
  have HZ1 := Lib.hid hz1
  have HZ2 := Lib.hid hz2
  have HJ := Lib.hid hib
  have HY0 := Lib.hid hy0
  have HY1 := Lib.hid hy1
  have HY2 := Lib.hid hy2
  clear hiu hz0 hz1 hz2 hib hy0 hy1 hy2
  go_loopw [11, 12, 13] (fun tu tb t wr => ∃ (i : Nat) (Au Ao : Option Addr) (cu co : Nat), i ≤ n ∧ t = .int .i64 i ∧ tu = .slice Au i cu ∧ tb = .slice Ao i co ∧ Hid (PR w v2 (rot (k % n) us) (rot (k % n) bs) i wr Au cu Ao co)) (fun _ _ t _ => n - (intOf t).toNat)
  case atStart => exact ⟨0, none, none, 0, 0, Nat.zero_le _, rfl, rfl, rfl, Below.refl _ _, ⟨[], Own.nil _ _ _ _, rfl⟩, Own.nil _ _ _ _⟩
  case round =>
    obtain ⟨i, Au, Ao, cu, co, hi, rfl, rfl, rfl, hR⟩ := hrel
    by_cases hlt : i < n
    · obtain ⟨hRB, ⟨Lu, hOu, hUL⟩, hOo⟩ := hR.out
      have hul : us.length = n := HU.out.1
      have hbl : bs.length = n := HB'.out.1
      obtain ⟨j, hj, hjn, hjd⟩ : ∃ j : Nat, ((i : Int) + (k : Int)) % (n : Int) = (j : Int) ∧ j < n ∧ j = (i + k) % n := ⟨(i + k) % n, by simp, Nat.mod_lt _ (by omega), rfl⟩
      obtain ⟨b, o, rfl, hb, hcell⟩ := HU.out.2 (by omega)
      obtain ⟨b', o', rfl, hb', hcell'⟩ := HB'.out.2 (by omega)
      have hrg := rot_get U0 k i us (by omega)
      have hrg' := rot_get false k i bs (by omega)
      rw [hul, ← hjd] at hrg
      rw [hbl, ← hjd] at hrg'
      have htk := take_more U0 (l := rot (k % n) us) (i := i) (by rw [rot_len]; omega)
      have htk' := take_more false (l := rot (k % n) bs) (i := i) (by rw [rot_len]; omega)
      rw [hrg] at htk
      rw [hrg'] at htk'
      have hu0 := hcell j hjn
      have hon := hcell' j hjn
      have hwlt : w.heap.size ≤ v2.heap.size := HB2.out.size
      generalize bs[j]?.getD false = bk at *
      generalize us[j]?.getD U0 = u at *
      obtain ⟨bus2, mn2, st2, up2, dn2, start2, idle2, spin2, on2⟩ := u
      obtain ⟨A2, n2, c2, ⟨h0', h1', h2', h3', h4', h5', h6', h7', h8'⟩, hs2, hn2⟩ := hu0
      simp only at h0' h1' h2' h3' h4' h5' h6' h7' h8' hs2
      have hUL2 : UL w ((rot (k % n) us).take (i + 1)) (Lu ++ [.int .i64 bus2, .int .i64 mn2, .slice A2 n2 c2, .int .i64 up2, .int .i64 dn2, .int .i64 start2, .int .i64 idle2, .int .i64 spin2, .int .i64 on2]) := by
        rw [htk]
        exact hUL.app ⟨A2, n2, c2, [], rfl, hs2, hn2, rfl⟩
      have hS : ∀ w', Below v2.heap.size v2 w' → ((w'.cell? ⟨b, o + j * 9, none⟩ = some (.int .i64 bus2) ∧ w'.cell? ⟨b, o + j * 9 + 1, none⟩ = some (.int .i64 mn2) ∧ w'.cell? ⟨b, o + j * 9 + 2, none⟩ = some (.slice A2 n2 c2) ∧ w'.cell? ⟨b, o + j * 9 + 3, none⟩ = some (.int .i64 up2) ∧ w'.cell? ⟨b, o + j * 9 + 4, none⟩ = some (.int .i64 dn2) ∧ w'.cell? ⟨b, o + j * 9 + 5, none⟩ = some (.int .i64 start2) ∧ w'.cell? ⟨b, o + j * 9 + 6, none⟩ = some (.int .i64 idle2) ∧ w'.cell? ⟨b, o + j * 9 + 7, none⟩ = some (.int .i64 spin2) ∧ w'.cell? ⟨b, o + j * 9 + 8, none⟩ = some (.int .i64 on2)) ∧ w'.cell? ⟨b', o' + j, none⟩ = some (.bool bk)) ∧ Below v2.heap.size v2 w' := fun w' hk => by
        have hk2 := HB2.out.trans (hk.mono hwlt)
        exact ⟨⟨⟨(hk2.cell (p := ⟨b, o + j * 9, none⟩) hb).trans h0', (hk2.cell (p := ⟨b, o + j * 9 + 1, none⟩) hb).trans h1', (hk2.cell (p := ⟨b, o + j * 9 + 2, none⟩) hb).trans h2', (hk2.cell (p := ⟨b, o + j * 9 + 3, none⟩) hb).trans h3', (hk2.cell (p := ⟨b, o + j * 9 + 4, none⟩) hb).trans h4', (hk2.cell (p := ⟨b, o + j * 9 + 5, none⟩) hb).trans h5', (hk2.cell (p := ⟨b, o + j * 9 + 6, none⟩) hb).trans h6', (hk2.cell (p := ⟨b, o + j * 9 + 7, none⟩) hb).trans h7', (hk2.cell (p := ⟨b, o + j * 9 + 8, none⟩) hb).trans h8'⟩, (hk2.cell (p := ⟨b', o' + j, none⟩) hb').trans hon⟩, hk⟩
      have HS := Lib.hid hS
      have hki1 : (0 : Int) ≤ (i : Int) := by omega
      have hki2 : (i : Int) < (n : Int) := by omega
      have hji1 : (0 : Int) ≤ (j : Int) := by omega
      have hji2 : (j : Int) < (n : Int) := by omega
      have xw : IntKind.i64.wrap ((i : Int) + (k : Int)) = (i : Int) + (k : Int) := IntWalk.i64_in _ (by omega)
      have hn0 : (n : Int) ≠ 0 := by omega
      have HUL := Lib.hid hUL2
      have HTK := Lib.hid htk'
      clear hUL2 hUL htk htk' hrg hrg' hS hcell hcell' hs2 h0' h1' h2' h3' h4' h5' h6' h7' h8' hon hul hbl
      go_upto_region 9 with fail
      try rw [hj]
      clear hj xw hjd
      have k1 := (Kp.refl wr).alloc (.cells #[.int .i64 bus2, .int .i64 mn2, .slice A2 n2 c2, .int .i64 up2, .int .i64 dn2, .int .i64 start2, .int .i64 idle2, .int .i64 spin2, .int .i64 on2] 48)
      have k2 := (Kp.refl wr).alloc (.cells #[.bool bk] 4)
      have k12 := k1.alloc (.cells #[.bool bk] 4)
      have k21 := k2.alloc (.cells #[.int .i64 bus2, .int .i64 mn2, .slice A2 n2 c2, .int .i64 up2, .int .i64 dn2, .int .i64 start2, .int .i64 idle2, .int .i64 spin2, .int .i64 on2] 48)
      have c1 : Below v2.heap.size v2 (wr.alloc (.cells #[.int .i64 bus2, .int .i64 mn2, .slice A2 n2 c2, .int .i64 up2, .int .i64 dn2, .int .i64 start2, .int .i64 idle2, .int .i64 spin2, .int .i64 on2] 48)) := hRB.trans (Below.mono k1 hRB.size)
      have c2' : Below v2.heap.size v2 (wr.alloc (.cells #[.bool bk] 4)) := hRB.trans (Below.mono k2 hRB.size)
      have c12 : Below v2.heap.size v2 ((wr.alloc (.cells #[.int .i64 bus2, .int .i64 mn2, .slice A2 n2 c2, .int .i64 up2, .int .i64 dn2, .int .i64 start2, .int .i64 idle2, .int .i64 spin2, .int .i64 on2] 48)).alloc (.cells #[.bool bk] 4)) := hRB.trans (Below.mono k12 hRB.size)
      have c21 : Below v2.heap.size v2 ((wr.alloc (.cells #[.bool bk] 4)).alloc (.cells #[.int .i64 bus2, .int .i64 mn2, .slice A2 n2 c2, .int .i64 up2, .int .i64 dn2, .int .i64 start2, .int .i64 idle2, .int .i64 spin2, .int .i64 on2] 48)) := hRB.trans (Below.mono k21 hRB.size)
      have u1 := hOu.keep k1
      have u12 := hOu.keep k12
      have u21 := hOu.keep k21
      have p1 := hOo.keep k1
      have p12 := hOo.keep k12
      have p21 := hOo.keep k21
      have m1a := Blk.new wr 48 #[.int .i64 bus2, .int .i64 mn2, .slice A2 n2 c2, .int .i64 up2, .int .i64 dn2, .int .i64 start2, .int .i64 idle2, .int .i64 spin2, .int .i64 on2]
      have m1b := m1a.alloc (.cells #[.bool bk] 4)
      have m1c := Blk.new1 wr (.cells #[.bool bk] 4) 48 #[.int .i64 bus2, .int .i64 mn2, .slice A2 n2 c2, .int .i64 up2, .int .i64 dn2, .int .i64 start2, .int .i64 idle2, .int .i64 spin2, .int .i64 on2]
      have m2b := Blk.new1 wr (.cells #[.int .i64 bus2, .int .i64 mn2, .slice A2 n2 c2, .int .i64 up2, .int .i64 dn2, .int .i64 start2, .int .i64 idle2, .int .i64 spin2, .int .i64 on2] 48) 4 #[.bool bk]
      have m2c := (Blk.new wr 4 #[.bool bk]).alloc (.cells #[.int .i64 bus2, .int .i64 mn2, .slice A2 n2 c2, .int .i64 up2, .int .i64 dn2, .int .i64 start2, .int .i64 idle2, .int .i64 spin2, .int .i64 on2] 48)
      have nu := fun g (hg : wr.heap.size ≤ g) => hOu.ne hg
      clear hR
      go_region_held3 (fun w' => ((w'.cell? ⟨b, o + j * 9, none⟩ = some (.int .i64 bus2) ∧ w'.cell? ⟨b, o + j * 9 + 1, none⟩ = some (.int .i64 mn2) ∧ w'.cell? ⟨b, o + j * 9 + 2, none⟩ = some (.slice A2 n2 c2) ∧ w'.cell? ⟨b, o + j * 9 + 3, none⟩ = some (.int .i64 up2) ∧ w'.cell? ⟨b, o + j * 9 + 4, none⟩ = some (.int .i64 dn2) ∧ w'.cell? ⟨b, o + j * 9 + 5, none⟩ = some (.int .i64 start2) ∧ w'.cell? ⟨b, o + j * 9 + 6, none⟩ = some (.int .i64 idle2) ∧ w'.cell? ⟨b, o + j * 9 + 7, none⟩ = some (.int .i64 spin2) ∧ w'.cell? ⟨b, o + j * 9 + 8, none⟩ = some (.int .i64 on2)) ∧ w'.cell? ⟨b', o' + j, none⟩ = some (.bool bk)) ∧ Below v2.heap.size v2 w')
        (first | exact HS.out _ g2 | exact HS.out _ (g1.alloc g1.size _) | exact HS.out _ g1 | exact HS.out _ hRB.drew | exact HS.out _ c1.drew | exact HS.out _ c2'.drew | exact HS.out _ c12.drew | exact HS.out _ c21.drew)
        (first
          | (refine step_append_my (base := v2.heap.size) (e := 48) (size := 9) (bytes := 88) (by rfl) (.tmp 53) (.tmp 58) 22 rfl Tryz.underlying22 HI.out HZ0.out HZ1.out HZ2.out rfl (by decide) (xs := Lu) (news := [.int .i64 bus2, .int .i64 mn2, .slice A2 n2 c2, .int .i64 up2, .int .i64 dn2, .int .i64 start2, .int .i64 idle2, .int .i64 spin2, .int .i64 on2]) rfl (by first | exact u1 | exact u12 | exact u21) rfl (by first | exact Blk.src m1a rfl punit_one | exact Blk.src m1b rfl punit_one | exact Blk.src m1c rfl punit_one) (by simp only [maxLen]; omega) (by omega) (Below.size (w := v2) (B := v2.heap.size) (by first | exact c1.drew | exact c12.drew | exact c21.drew)) ?_
             intro B1 cb1 w1 hO1 hb1 hk1
             have g1 : Below v2.heap.size v2 w1 := Below.trans (by first | exact c1.drew | exact c12.drew | exact c21.drew) hb1
             have hOo1 : Own v2.heap.size 4 1 w1 Ao i co (((rot (k % n) bs).take i).map Value.bool) := by first | exact p1.far u1 (by decide) hk1 | exact p12.far u12 (by decide) hk1 | exact p21.far u21 (by decide) hk1
             (first | have hM := Kept.blk hk1 m2b (nu _ (by omega)) | have hM := Kept.blk hk1 m2c (nu _ (by omega)) | skip)
             clear hb1 hk1)
          | (refine step_append_my (base := v2.heap.size) (e := 4) (size := 1) (bytes := 1) (by rfl) (.tmp 60) (.tmp 65) 23 rfl Tryz.underlying23 HJ.out HY0.out HY1.out HY2.out rfl (by decide) (xs := ((rot (k % n) bs).take i).map Value.bool) (news := [.bool bk]) rfl (by first | exact hOo1 | exact hOo1.keep ((Below.refl _ _).alloc (Nat.le_refl _) _)) rfl (by first | exact Blk.src hM rfl pbool_one | exact Blk.src (Blk.new w1 _ _) rfl pbool_one) (by simp only [maxLen]; omega) (by omega) (Below.size (w := v2) (B := v2.heap.size) (by first | exact g1 | exact g1.alloc g1.size _)) ?_
             intro B2 cb2 w2 hO2 hb2 hk2
             have g2 : Below v2.heap.size v2 w2 := Below.trans (by first | exact g1 | exact g1.alloc g1.size _) hb2
             have hOu2 : Own v2.heap.size 48 9 w2 B1 (i + 1) cb1 (Lu ++ [.int .i64 bus2, .int .i64 mn2, .slice A2 n2 c2, .int .i64 up2, .int .i64 dn2, .int .i64 start2, .int .i64 idle2, .int .i64 spin2, .int .i64 on2]) := by first | exact hO1.far hOo1 (by decide) hk2 | exact (hO1.keep ((Below.refl _ _).alloc (Nat.le_refl _) _)).far (hOo1.keep ((Below.refl _ _).alloc (Nat.le_refl _) _)) (by decide) hk2
             clear hb2 hk2))
      all_goals
        have hfin : PR w v2 (rot (k % n) us) (rot (k % n) bs) (i + 1) w2 B1 cb1 B2 cb2 := ⟨g2, ⟨_, hOu2, HUL.out⟩, by rw [HTK.out, List.map_append]; exact hO2⟩
        have HF := Lib.hid hfin
        clear hfin
        go_wp2
        go_roundw
        case rel => exact ⟨i + 1, B1, B2, cb1, cb2, by omega, by go_num, rfl, rfl, HF.out⟩
        case measure => simp [intOf]; omega
    · obtain rfl : i = n := by omega
      obtain ⟨hRB, ⟨Lu, hOu, hUL⟩, hOo⟩ := hR.out
      have hul : us.length = i := HU.out.1
      have hbl : bs.length = i := HB'.out.1
      rw [List.take_of_length_le (by rw [rot_len]; omega)] at hUL hOo
      obtain ⟨q, hq, e1, e2⟩ : ∃ q, q ≤ i ∧ rot (k % i) us = rot q us ∧ rot (k % i) bs = rot q bs := by
        by_cases h0 : i = 0
        · subst h0
          have a1 : us = [] := List.eq_nil_of_length_eq_zero hul
          have a2 : bs = [] := List.eq_nil_of_length_eq_zero hbl
          subst a1 a2
          exact ⟨0, Nat.le_refl _, by simp [rot], by simp [rot]⟩
        · exact ⟨k % i, Nat.le_of_lt (Nat.mod_lt _ (by omega)), rfl, rfl⟩
      rw [e1] at hUL
      rw [e2] at hOo
      have HRB := Lib.hid hRB
      have HOU := Lib.hid hOu
      have HUL := Lib.hid hUL
      have HOO := Lib.hid hOo
      have HUN := Lib.hid hul
      have HBN := Lib.hid hbl
      have HQ := Lib.hid hq
      have HW1 := Lib.hid (HB2.out.trans (hRB.mono HB2.out.size))
      have hbox : w.heap.size < v2.heap.size := HB3.out.lt
      clear hR hRB hOu hUL hOo hul hbl hq e1 e2
      go_wp2_with fail
      refine (HLC1.out wr HW1.out).mono ?_
      rintro e x1 ⟨rfl, hp1, hb1⟩
      have HP1 := Lib.hid hp1
      have HRB1 := Lib.hid (HRB.out.trans (hb1.mono HRB.out.size))
      have HOU1 := Lib.hid (HOU.out.keep hb1)
      have HOO1 := Lib.hid (HOO.out.keep hb1)
      clear hp1 hb1 HRB HOU HOO HLC1 HW1
      have HLC2 := Lib.hid (elc_any Au Ao i cu i co (rot q us) (rot q bs) f x1 (HOU1.out.units (HUL.out.below (HB2.out.trans (HRB1.out.mono HB2.out.size))) (by rw [rot_len]; exact HUN.out)) HOO1.out.bools (by omega) (by omega))
      go_wp2_with fail
      refine HLC2.out.mono ?_
      rintro e x2 ⟨rfl, hp2, hb2⟩
      have HP2 := Lib.hid hp2
      have HRB2 := Lib.hid (HRB1.out.trans (hb2.mono HRB1.out.size))
      have HOU2 := Lib.hid (HOU1.out.keep hb2)
      have HOO2 := Lib.hid (HOO1.out.keep hb2)
      have e1 := aerr_rot (k := q) (f := f) HE.out HBN.out
      have e2 := lcV_rot HE.out HBN.out HQ.out HP1.out HP2.out
      have HE1 := Lib.hid e1
      have HE2 := Lib.hid e2
      rw [e1, e2]
      clear hp2 hb2 HRB1 HOU1 HOO1 HLC2 e1 e2
      have hB5 := HB3.out.below HRB2.out hbox
      have hB6 : Blk (x2.setCell ⟨w.heap.size, 1, none⟩ (.int .i64 0)) w.heap.size 48 #[.int .i64 bus, .int .i64 0, .slice A' n' c', .int .i64 up, .int .i64 dn, .int .i64 start, .int .i64 idle, .int .i64 spin, .int .i64 on] := hB5.set 1 _
      have hfz := hB5.frozen 1
      obtain ⟨y0, y1, y2, y3, y4, y5, y6, y7, y8⟩ := hB5.nine
      have HW2 := Lib.hid (HB2.out.trans (HRB2.out.mono HB2.out.size))
      have HW3 := Lib.hid (HW2.out.setCell (p := ⟨w.heap.size, 1, none⟩) (Nat.le_refl _) (.int .i64 0))
      have HOU3 := Lib.hid (HOU2.out.aside (p := ⟨w.heap.size, 1, none⟩) hbox (.int .i64 0))
      have HOO3 := Lib.hid (HOO2.out.aside (p := ⟨w.heap.size, 1, none⟩) hbox (.int .i64 0))
      have hne : (lcV us bs i f != lcV us bs i f) = false := by simp
      by_cases hx : aerr us bs i f = 0
      · rw [hx]
        have HX := Lib.hid hx
        clear hx
        by_cases h5 : 5 ≤ i
        · have d5 : decide ((5 : Int) ≤ (i : Int)) = true := by simp; omega
          generalize lcV us bs i f = v at *
          clear hB6
          go_wp2
          go_ret
          exact ⟨rfl, HW3.out⟩
        · have d5 : decide ((5 : Int) ≤ (i : Int)) = false := by simp; omega
          have hsz : v2.heap.size ≤ (x2.setCell ⟨w.heap.size, 1, none⟩ (.int .i64 0)).heap.size := by simpa [World.setCell] using HRB2.out.size
          have hB7 := Lib.hid hB6
          have HNV := Lib.hid hne
          have hae := HE1.out
          rw [HX.out] at hae
          have HAE := Lib.hid hae
          have hbl2 : (rot q bs).length = i := by rw [rot_len]; exact HBN.out
          have hsm := fun hv => snoc_more (v := ⟨bus, 0, l, up, dn, start, idle, spin, on⟩) hbl2 hae hv rfl (show i < 5 by omega)
          have hsc := fun hv hq => snoc_cost (v := ⟨bus, 0, l, up, dn, start, idle, spin, on⟩) hbl2 hae hv rfl (show i < 5 by omega) HP2.out hq
          rw [HE2.out] at hsc
          have HSM := Lib.hid hsm
          have HSC := Lib.hid hsc
          clear hB6 hae hbl2 hsm hsc
          generalize lcV us bs i f = v at *
          by_cases hy : uchk ⟨bus, 0, l, up, dn, start, idle, spin, on⟩ = 0
          · have HY := Lib.hid hy
            rw [hy] at HCK
            clear hy
            go_wp2_with fail
            refine (HCK.out _ HW3.out).mono ?_
            rintro e x4 ⟨rfl, hb4⟩
            have hB8 := hB7.out.below hb4 hB7.out.lt
            have HOU4 := Lib.hid (HOU3.out.keep hb4)
            have HOO4 := Lib.hid (HOO3.out.keep hb4)
            have HW4 := Lib.hid (HW3.out.trans (hb4.mono HW3.out.size))
            have hsz4 : v2.heap.size ≤ x4.heap.size := Nat.le_trans hsz hb4.size
            clear hb4 HCK hB7 HOU3 HOO3 HW3 y0 y1 y2 y3 y4 y5 y6 y7 y8 hfz hB5 HOU2 HOO2 HW2 HRB2
            obtain ⟨y0, y1, y2, y3, y4, y5, y6, y7, y8⟩ := hB8.nine
            have m1 := Blk.new x4 48 #[.int .i64 bus, .int .i64 0, .slice A' n' c', .int .i64 up, .int .i64 dn, .int .i64 start, .int .i64 idle, .int .i64 spin, .int .i64 on]
            have c4 := (Kp.refl x4).alloc (.cells #[.int .i64 bus, .int .i64 0, .slice A' n' c', .int .i64 up, .int .i64 dn, .int .i64 start, .int .i64 idle, .int .i64 spin, .int .i64 on] 48)
            have u4 := HOU4.out.keep c4
            have p4 := HOO4.out.keep c4
            go_wp2_with (first
              | (at_builtin; refine wpList_append_my rfl (base := v2.heap.size) (e := 48) (size := 9) (bytes := 88) (.tmp 103) (.tmp 105) 22 rfl Tryz.underlying22 HI.out HZ0.out HZ1.out HZ2.out rfl (by decide) (xs := Lu) (news := [.int .i64 bus, .int .i64 0, .slice A' n' c', .int .i64 up, .int .i64 dn, .int .i64 start, .int .i64 idle, .int .i64 spin, .int .i64 on]) rfl (by exact u4) rfl (by exact Blk.src m1 rfl punit_one) (by simp only [maxLen]; omega) (by omega) (by exact Nat.le_trans hsz4 (Below.size c4)) ?_
                 intro B1 cb1 w1 hO1 hb1 hk1
                 have g1 : Below w.heap.size w w1 := (HW4.out.trans (Below.mono c4 HW4.out.size)).trans (hb1.mono (Nat.le_of_lt hbox))
                 have hOo1 := p4.far u4 (by decide) hk1
                 have hsz5 : v2.heap.size ≤ w1.heap.size := Nat.le_trans (Nat.le_trans hsz4 (Below.size c4)) hb1.size
                 have m2 := Blk.new w1 4 #[.bool true]
                 have c5 := (Kp.refl w1).alloc (.cells #[.bool true] 4)
                 have p5 := hOo1.keep c5
                 have u5 := hO1.keep c5
                 clear hb1 hk1)
              | (at_builtin; refine wpList_append_my rfl (base := v2.heap.size) (e := 4) (size := 1) (bytes := 1) (.tmp 107) (.tmp 108) 23 rfl Tryz.underlying23 HJ.out HY0.out HY1.out HY2.out rfl (by decide) (xs := (rot q bs).map Value.bool) (news := [.bool true]) rfl (by exact p5) rfl (by exact Blk.src m2 rfl pbool_one) (by simp only [maxLen]; omega) (by omega) (by exact Nat.le_trans hsz5 (Below.size c5)) ?_
                 intro B2 cb2 w2 hO2 hb2 hk2
                 have g2 : Below w.heap.size w w2 := (g1.trans (Below.mono c5 g1.size)).trans (hb2.mono (Nat.le_of_lt hbox))
                 have hOu2 := u5.far p5 (by decide) hk2
                 clear hb2 hk2))
            have hus : UsAt w2 B1 (i + 1) (rot q us ++ [⟨bus, 0, l, up, dn, start, idle, spin, on⟩]) := by
              refine hOu2.units ((HUL.out.below g2).app ⟨A', n', c', [], rfl, HSS.out.below g2, by omega, rfl⟩) ?_
              rw [List.length_append, rot_len, HUN.out]; rfl
            have hbs : BsAt w2 B2 (i + 1) (rot q bs ++ [true]) := by
              refine Own.bools (base := v2.heap.size) (e := 4) (c := cb2) ?_
              rw [List.map_append]
              exact hO2
            have HL3 := Lib.hid (elc_any B1 B2 (i + 1) cb1 (i + 1) cb2 _ _ f w2 hus hbs (by omega) (by omega))
            have HG2 := Lib.hid g2
            clear hus hbs g1 g2 hO1 hO2 hOu2 hOo1 m1 m2 c4 c5 u4 u5 p4 p5 hB8 y0 y1 y2 y3 y4 y5 y6 y7 y8 HOU4 HOO4 HW4
            refine HL3.out.mono ?_
            rintro e x5 ⟨rfl, hp5, hb5⟩
            rw [HSM.out HY.out]
            have dle : decide (lcV (rot q us ++ [⟨bus, 0, l, up, dn, start, idle, spin, on⟩]) (rot q bs ++ [true]) (i + 1) f ≤ v) = true := by
              have := HSC.out HY.out hp5
              simpa using this
            generalize lcV (rot q us ++ [⟨bus, 0, l, up, dn, start, idle, spin, on⟩]) (rot q bs ++ [true]) (i + 1) f = v5 at *
            have HG3 := Lib.hid (HG2.out.trans (hb5.mono HG2.out.size))
            clear hp5 hb5 HL3 HG2
            go_wp2
            go_ret
            exact ⟨by simp, HG3.out⟩
          · generalize uchk ⟨bus, 0, l, up, dn, start, idle, spin, on⟩ = y at *
            have dy : (y != 0) = true := by simpa using hy
            clear hy
            go_wp2_with fail
            refine (HCK.out _ HW3.out).mono ?_
            rintro e x4 ⟨rfl, hb4⟩
            have HW4 := Lib.hid (HW3.out.trans (hb4.mono HW3.out.size))
            clear hb4 HCK
            go_wp2
            go_ret
            exact ⟨rfl, HW4.out⟩
      · generalize aerr us bs i f = x at *
        generalize lcV us bs i f = v at *
        have dx : (x != 0) = true := by simpa using hx
        have dxx : (x != x) = false := by simp
        clear hx hB6
        go_wp2
        go_ret
        exact ⟨rfl, HW3.out⟩

theorem perm_any (A B : Option Addr) (n c m d : Nat) (us : List Un) (bs : List Bool) (f : Int) (bus mn up dn start idle spin on : Int) (A' : Option Addr) (n' c' : Nat) (l : List (Int × Int)) (k : Nat) (hk : k < 256) (w : World) (h : UsRaw w A n us) (h' : BsAt w B m bs) (hs : StAt w A' n' l) : Calls Tryz.prog 16 #[.slice A n c, .slice B m d, .int .i64 f, .int .u8 (k : Int), .agg #[.int .i64 bus, .int .i64 mn, .slice A' n' c', .int .i64 up, .int .i64 dn, .int .i64 start, .int .i64 idle, .int .i64 spin, .int .i64 on]] w fun e w' => e = .returned (.bool true) ∧ Below w.heap.size w w' := by
  cases hlg : longB us m with
  | true => exact perm_long A B n c m d us bs f bus mn up dn start idle spin on A' n' c' l k hk w h h' hs hlg
  | false =>
    cases hlg2 : longB [⟨bus, mn, l, up, dn, start, idle, spin, on⟩] 0 with
    | true => exact perm_long2 A B n c m d us bs f bus mn up dn start idle spin on A' n' c' l k hk w h h' hs hlg hlg2
    | false =>
      by_cases he : echk us m = 0
      · exact perm_good A B n c m d us bs f bus mn up dn start idle spin on A' n' c' l k hk w h h' hs hlg hlg2 he
      · exact perm_check A B n c m d us bs f bus mn up dn start idle spin on A' n' c' l k hk w h h' hs hlg hlg2 he

end Go.Proofs.YthpldmlpononhaaGreat
