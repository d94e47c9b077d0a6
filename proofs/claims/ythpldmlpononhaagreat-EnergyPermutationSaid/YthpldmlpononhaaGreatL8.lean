/-
The statement EnergySingleUnit: the walk. No statement of the seat is proved here; no conditions beyond those of each theorem.
-/
import Derived.Test.YthpldmlpononhaaGreatL3
namespace Go.Proofs.YthpldmlpononhaaGreat
set_option linter.unusedVariables false
set_option linter.unusedSimpArgs false
open Go.RowKit
open Wd
open En (Pc PU)

theorem one_us {w : World} {g : Nat} {t : TypeId} {bus mn up dn start idle spin on : Int} {A' : Option Addr} {n' c' : Nat} {l : List (Int × Int)} (hb : Blk w g t #[.int .i64 bus, .int .i64 mn, .slice A' n' c', .int .i64 up, .int .i64 dn, .int .i64 start, .int .i64 idle, .int .i64 spin, .int .i64 on]) (hs : StAt w A' n' l) : UsRaw w (some ⟨g, 0, none⟩) 1 [⟨bus, mn, l, up, dn, start, idle, spin, on⟩] :=
  ⟨rfl, fun _ => ⟨g, 0, rfl, hb.lt, fun j hj => by
    match j, hj with
    | 0, _ => exact ⟨A', n', c', ⟨hb.cell 0, hb.cell 1, hb.cell 2, hb.cell 3, hb.cell 4, hb.cell 5, hb.cell 6, hb.cell 7, hb.cell 8⟩, hs⟩⟩⟩
theorem one_err {u : Un} {f : Int} (h : uchk u = 0) (h1 : u.mn ≤ f) (h2 : f ≤ umax u) : aerr [u] [true] 1 f = 0 := by
  obtain ⟨_, h3, _⟩ := uchk_ok h
  have e1 : echk [u] 1 = 0 := by unfold echk; simp [ecFrom, h]
  have e2 : rmin ([u].zip [true]) = u.mn := by simp [rmin]
  have e3 : rmax ([u].zip [true]) = umax u := by simp [rmax]
  unfold aerr
  rw [e1, e2, e3, if_neg (by simp), if_neg (by omega), if_neg (by omega)]
theorem one_ok {u : Un} {f : Int} (h : aerr [u] [true] 1 f = 0) : uchk u = 0 ∧ u.mn ≤ f ∧ f ≤ umax u := by
  obtain ⟨h1, _, h3, h4⟩ := aerr_ok h
  obtain ⟨_, _, hok⟩ := echk_ok h1
  have e2 : rmin ([u].zip [true]) = u.mn := by simp [rmin]
  have e3 : rmax ([u].zip [true]) = umax u := by simp [rmax]
  rw [e2] at h3
  rw [e3] at h4
  exact ⟨hok u (by simp), h3, h4⟩
theorem one_cost {u : Un} {f : Int} (h : aerr [u] [true] 1 f = 0) (hp : LcP [u] [true] 1 f) : lcV [u] [true] 1 f = En.cst u.st f := by
  obtain ⟨hO, hl⟩ := hp h
  unfold lcV
  rw [if_pos h]
  match hx : optR [u] [true] f, hl with
  | [x], _ =>
    rw [hx] at hO
    have := hO.1
    simp only [En.sumR] at this
    have e : x = f := by omega
    subst e
    simp [pus, En.costR]

set_option maxRecDepth 100000 in
set_option maxHeartbeats 8000000 in
theorem single_any (bus mn up dn start idle spin on f : Int) (A' : Option Addr) (n' c' : Nat) (l : List (Int × Int)) (w : World) (hs : StAt w A' n' l) (hff : Fits f) :
    Calls Tryz.prog 17 #[.agg #[.int .i64 bus, .int .i64 mn, .slice A' n' c', .int .i64 up, .int .i64 dn, .int .i64 start, .int .i64 idle, .int .i64 spin, .int .i64 on], .int .i64 f] w fun e w' => e = .returned (.bool true) ∧ Below w.heap.size w w' := by
  have HAW := Lib.hid (fun W => awake28_any W)
  have HSS := Lib.hid hs
  have HFF := Lib.hid hff
  have HSL := Lib.hid hs.1
  clear hs hff
  go_enter Tryz.func17, Tryz.ntmps17
  go_wp2_with fail
  have hB0 := (Blk.new w 48 #[.int .i64 bus, .int .i64 mn, .slice A' n' c', .int .i64 up, .int .i64 dn, .int .i64 start, .int .i64 idle, .int .i64 spin, .int .i64 on]).alloc (.cells #[.int .i64 bus, .int .i64 mn, .slice A' n' c', .int .i64 up, .int .i64 dn, .int .i64 start, .int .i64 idle, .int .i64 spin, .int .i64 on] 48)
  have hB1 := Blk.new1 w (.cells #[.int .i64 bus, .int .i64 mn, .slice A' n' c', .int .i64 up, .int .i64 dn, .int .i64 start, .int .i64 idle, .int .i64 spin, .int .i64 on] 48) 48 #[.int .i64 bus, .int .i64 mn, .slice A' n' c', .int .i64 up, .int .i64 dn, .int .i64 start, .int .i64 idle, .int .i64 spin, .int .i64 on]
  have hBW : Below w.heap.size w ((w.alloc (.cells #[.int .i64 bus, .int .i64 mn, .slice A' n' c', .int .i64 up, .int .i64 dn, .int .i64 start, .int .i64 idle, .int .i64 spin, .int .i64 on] 48)).alloc (.cells #[.int .i64 bus, .int .i64 mn, .slice A' n' c', .int .i64 up, .int .i64 dn, .int .i64 start, .int .i64 idle, .int .i64 spin, .int .i64 on] 48)) := ((Below.refl _ _).alloc (Nat.le_refl _) _).alloc (by simp only [World.size_alloc]; omega) _
  have hsz : ((w.alloc (.cells #[.int .i64 bus, .int .i64 mn, .slice A' n' c', .int .i64 up, .int .i64 dn, .int .i64 start, .int .i64 idle, .int .i64 spin, .int .i64 on] 48)).alloc (.cells #[.int .i64 bus, .int .i64 mn, .slice A' n' c', .int .i64 up, .int .i64 dn, .int .i64 start, .int .i64 idle, .int .i64 spin, .int .i64 on] 48)).heap.size = w.heap.size + 1 + 1 := by simp
  generalize (w.alloc (.cells #[.int .i64 bus, .int .i64 mn, .slice A' n' c', .int .i64 up, .int .i64 dn, .int .i64 start, .int .i64 idle, .int .i64 spin, .int .i64 on] 48)).alloc (.cells #[.int .i64 bus, .int .i64 mn, .slice A' n' c', .int .i64 up, .int .i64 dn, .int .i64 start, .int .i64 idle, .int .i64 spin, .int .i64 on] 48) = W at *
  have HSZ := Lib.hid hsz
  clear hsz
  have hU1 := one_us hB1 (HSS.out.below hBW)
  have T1 := long28_any (some ⟨w.heap.size + 1, 0, none⟩) none 1 1 0 0 [⟨bus, mn, l, up, dn, start, idle, spin, on⟩] [] W hU1 rfl
  have HBW := Lib.hid hBW
  clear hBW
  cases hlg : longB [⟨bus, mn, l, up, dn, start, idle, spin, on⟩] 0
  · obtain ⟨hUA, -, -⟩ := hU1.at hlg
    have hn20 : n' ≤ 20 := by
      unfold longB at hlg
      simp [longL] at hlg
      have := HSL.out
      omega
    rw [hlg] at T1
    have HT1 := Lib.hid T1
    clear T1 hlg hU1 hB1 hUA
    refine HT1.out.mono ?_
    rintro e w1 ⟨rfl, rfl⟩
    clear HT1
    go_wp2_with fail
    refine (HAW.out _).mono ?_
    rintro e v0 ⟨rfl, hb0⟩
    have HB0 := Lib.hid (HBW.out.trans (hb0.mono HBW.out.size))
    have hBu := hB0.below hb0 hB0.lt
    obtain ⟨y0, y1, y2, y3, y4, y5, y6, y7, y8⟩ := hBu.nine
    clear hb0 hB0 HAW
    have hul : w.heap.size < v0.heap.size := hBu.lt
    have hBx : Below w.heap.size w ((v0.alloc (.cells #[.int .i64 bus, .int .i64 mn, .slice A' n' c', .int .i64 up, .int .i64 dn, .int .i64 start, .int .i64 idle, .int .i64 spin, .int .i64 on] 48)).alloc (.cells #[.bool true] 4)) := (HB0.out.alloc HB0.out.size _).alloc (by rw [World.size_alloc]; exact Nat.le_succ_of_le HB0.out.size) _
    have hBu2 := (hBu.alloc (.cells #[.int .i64 bus, .int .i64 mn, .slice A' n' c', .int .i64 up, .int .i64 dn, .int .i64 start, .int .i64 idle, .int .i64 spin, .int .i64 on] 48)).alloc (.cells #[.bool true] 4)
    have hUs : UsAt ((v0.alloc (.cells #[.int .i64 bus, .int .i64 mn, .slice A' n' c', .int .i64 up, .int .i64 dn, .int .i64 start, .int .i64 idle, .int .i64 spin, .int .i64 on] 48)).alloc (.cells #[.bool true] 4)) (some ⟨v0.heap.size, 0, none⟩) 1 [⟨bus, mn, l, up, dn, start, idle, spin, on⟩] := by
      have h1 := one_us ((Blk.new v0 48 #[.int .i64 bus, .int .i64 mn, .slice A' n' c', .int .i64 up, .int .i64 dn, .int .i64 start, .int .i64 idle, .int .i64 spin, .int .i64 on]).alloc (.cells #[.bool true] 4)) (HSS.out.below (hBx.mono (Nat.le_refl _)))
      exact (h1.at (m := 0) (by unfold longB; simp [longL]; have := HSL.out; omega)).1
    have hBs : BsAt ((v0.alloc (.cells #[.int .i64 bus, .int .i64 mn, .slice A' n' c', .int .i64 up, .int .i64 dn, .int .i64 start, .int .i64 idle, .int .i64 spin, .int .i64 on] 48)).alloc (.cells #[.bool true] 4)) (some ⟨v0.heap.size + 1, 0, none⟩) 1 [true] :=
      ⟨rfl, fun _ => ⟨v0.heap.size + 1, 0, rfl, (Blk.new1 v0 (.cells #[.int .i64 bus, .int .i64 mn, .slice A' n' c', .int .i64 up, .int .i64 dn, .int .i64 start, .int .i64 idle, .int .i64 spin, .int .i64 on] 48) 4 #[.bool true]).lt, fun j hj => by
        match j, hj with
        | 0, _ => exact (Blk.new1 v0 (.cells #[.int .i64 bus, .int .i64 mn, .slice A' n' c', .int .i64 up, .int .i64 dn, .int .i64 start, .int .i64 idle, .int .i64 spin, .int .i64 on] 48) 4 #[.bool true]).cell 0⟩⟩
    have HLC := Lib.hid (elc_any (some ⟨v0.heap.size, 0, none⟩) (some ⟨v0.heap.size + 1, 0, none⟩) 1 1 1 1 [⟨bus, mn, l, up, dn, start, idle, spin, on⟩] [true] f _ hUs hBs (by omega) (by omega))
    have HBX := Lib.hid hBx
    have HBU2 := Lib.hid hBu2
    clear hUs hBs hBx hBu2
    go_wp2_with fail
    refine HLC.out.mono ?_
    rintro e v1 ⟨rfl, hp1, hb1⟩
    have HB1 := Lib.hid (HBX.out.trans (hb1.mono HBX.out.size))
    have hBu3 := HBU2.out.below hb1 HBU2.out.lt
    clear HLC HBX HBU2 hb1 hBu y0 y1 y2 y3 y4 y5 y6 y7 y8
    obtain ⟨y0, y1, y2, y3, y4, y5, y6, y7, y8⟩ := hBu3.nine
    have HCK := Lib.hid (fun W hW => ucheck_raw bus mn up dn start idle spin on A' n' c' l W hW (by omega))
    have HMX := Lib.hid (fun W hW => umax_raw bus mn up dn start idle spin on A' n' c' l W hW (by omega))
    by_cases he : aerr [⟨bus, mn, l, up, dn, start, idle, spin, on⟩] [true] 1 f = 0
    · obtain ⟨hc0, hm1, hm2⟩ := one_ok he
      obtain ⟨ck1, ck2, ck3, ck4, ck5, ck6⟩ := uchk_ok hc0
      have hcost := one_cost he hp1
      simp only at hm1 ck1 ck2 ck3 ck4 ck5 hcost
      rw [ck6] at hm2
      simp only at hm2
      have hcv := chk_curve ck1
      have hcb := cst_bd hcv (by omega) hm2
      have HFI := Lib.hid (fun W => qfromInt64_any f W (by omega) (by omega))
      have HSC := Lib.hid (fun (W : World) (hW : StAt W A' n' l) (B1 B2 : Option Addr) (j1 d1 j2 d2 : Nat) (e1 : j1 ≤ d1) (e2 : j2 ≤ d2) (e3 : Wat W B1 j1 (digs ((f : Int) : Rat).num.natAbs)) (e4 : Wat W B2 j2 (denW ((f : Int) : Rat).den)) => scost_whole A' n' c' l B1 B2 j1 d1 j2 d2 f W hW e1 e2 e3 e4 hcv (by omega) hm2)
      have HF2 := Lib.hid (fun W => qfromInt64_any (En.cst l f) W (by omega) (by omega))
      have hEQ := fun (W : World) (B1 B1' B2 B2' : Option Addr) (j1 d1 j1' d1' j2 d2 j2' d2' : Nat) (hx : CQ 0 W ((En.cst l f : Int) : Rat) B1 j1 d1 B1' j1' d1') (hy : CQ 0 W ((En.cst l f : Int) : Rat) B2 j2 d2 B2' j2' d2') =>
        qequal_any (Nn := 1152921504606846976) (Nd := 2) (decide (((En.cst l f : Int) : Rat).num < 0)) false (decide (((En.cst l f : Int) : Rat).num < 0)) false B1 B1' B2 B2' j1 d1 j1' d1' j2 d2 j2' d2' ((En.cst l f : Int) : Rat) ((En.cst l f : Int) : Rat) W (hx.at wok_small (by omega) (by omega) (by rw [Rat.num_intCast]; omega) (by rw [Rat.den_intCast]; omega)) (hy.at wok_small (by omega) (by omega) (by rw [Rat.num_intCast]; omega) (by rw [Rat.den_intCast]; omega))
      have edd : decide (((En.cst l f : Int) : Rat) = ((En.cst l f : Int) : Rat)) = true := decide_eq_true rfl
      simp only [edd] at hEQ
      have HEQ := Lib.hid hEQ
      have dm1 : decide (mn ≤ f) = true := by simpa using hm1
      rw [ck6] at HMX
      simp only at HMX
      have dm2 : decide (f ≤ qsum l) = true := by simpa using hm2
      rw [he, hcost]
      generalize hqf : ((f : Int) : Rat) = qf at *
      generalize hqc : ((En.cst l f : Int) : Rat) = qc at *
      generalize En.cst l f = zc at *
      generalize qsum l = ql at *
      clear hcost he hp1 hc0 ck1 ck6 hcv hcb hEQ edd hqf hqc HCK
      go_wp2_with fail
      have s5 := Kp.refl v1
      have hS : ∀ w', Kp v1 w' → (w'.cell? ⟨w.heap.size, 2, none⟩ = some (.slice A' n' c')) ∧ Kp v1 w' := fun w' hk => ⟨(hk.blk hBu3).cell 2, hk⟩
      have HS := Lib.hid hS
      clear hS y0 y1 y2 y3 y4 y5 y6 y7 y8
      go_region_held3 (fun w' => (w'.cell? ⟨w.heap.size, 2, none⟩ = some (.slice A' n' c')) ∧ Kp v1 w')
        (first | (with_reducible refine HS.out _ ?_; with_reducible assumption) | (with_reducible refine HS.out _ (Kp.drew ?_); with_reducible assumption) | (with_reducible refine' HS.out _ (Kp.drew (And.right ?_)); rotate_left; with_reducible assumption) | (with_reducible refine' HS.out _ (Kp.alloc (And.right ?_) _); rotate_left; with_reducible assumption) | (with_reducible refine' HS.out _ (Kp.alloc ?_ _); rotate_left; with_reducible assumption) | (with_reducible refine HS.out _ (Kp.drew (Kp.alloc ?_ _)); with_reducible assumption) | ((with_reducible refine' HS.out _ (Kp.set4 (And.right ?_) ?_ _ _ _ _)); rotate_left; (with_reducible assumption); first | exact Nat.le_refl _ | exact Below.size hp5))
        (first
          | (go_at_call 37; have hk := And.right ‹_ ∧ Kp v1 _›; refine (HFI.out _).mono ?_; rintro e v5 ⟨A3, k3, c3, A4, k4, c4, rfl, hk3, hk4, hW3, hW4, hF3, hF4, hb3⟩; have hp5 := Kp.trans hk hb3; (try have hN5 := Blk.below (Blk.drew (Blk.new v1 31 #[.bool false, .slice none 0 0, .bool false, .slice none 0 0])) hb3 (Nat.lt_of_lt_of_eq (Nat.lt_succ_self _) (World.size_alloc _ _).symm)); clear hk hF3 hF4 hb3)
          | (go_at_call 55; have hk := And.right ‹_ ∧ Kp v1 _›; refine (HSC.out _ ((HSS.out.below HB1.out).below hk) A3 A4 k3 c3 k4 c4 hk3 hk4 (by first | exact hW3 | exact hW3.alloc _) (by first | exact hW4 | exact hW4.alloc _)).mono ?_; rintro e v6 ⟨A5, k5, c5, A6, k6, c6, rfl, hC5, hb4⟩; have hp6 := Kp.trans hk hb4; (try (have hN6 := hN5.below hb4 hN5.lt; obtain ⟨z0, z1, z2, z3, z4, z5, z6, z7⟩ := Blk.four hN6)); (try (have hN6 := Blk.below (Blk.new v5 31 #[.bool false, .slice none 0 0, .bool false, .slice none 0 0]) hb4 (Nat.lt_of_lt_of_eq (Nat.lt_succ_self _) (World.size_alloc _ _).symm); obtain ⟨z0, z1, z2, z3, z4, z5, z6, z7⟩ := Blk.four hN6)); clear hk hb4))
      · have hVb : Blk (v6.alloc (.cells #[.bool (decide (qc.num < 0)), .slice A5 k5 c5, .bool false, .slice A6 k6 c6] 31)) (v6.heap.size) 31 #[.bool (decide (qc.num < 0)), .slice A5 k5 c5, .bool false, .slice A6 k6 c6] := Blk.new _ _ _
        have hVc : CQ 0 (v6.alloc (.cells #[.bool (decide (qc.num < 0)), .slice A5 k5 c5, .bool false, .slice A6 k6 c6] 31)) qc A5 k5 c5 A6 k6 c6 := (hC5.below ((Below.refl _ _).alloc (Nat.le_refl _) _)).zb
        have hVk : Kp v1 (v6.alloc (.cells #[.bool (decide (qc.num < 0)), .slice A5 k5 c5, .bool false, .slice A6 k6 c6] 31)) := Kp.alloc hp6 _
        generalize v6.alloc (.cells #[.bool (decide (qc.num < 0)), .slice A5 k5 c5, .bool false, .slice A6 k6 c6] 31) = V at *
        generalize hgg : v6.heap.size = g9 at *
        have hBu9 := Kp.blk hVk hBu3
        have HBV := Lib.hid (HB1.out.trans (Below.mono hVk HB1.out.size))
        have HVC := Lib.hid hVc
        rename_i hHeld
        clear hHeld
        clear HFI HSC HS hC5 hp5 hp6 hW3 hW4 hk3 hk4 hgg hVc s5
        (try clear z0 z1 z2 z3 z4 z5 z6 z7 hN6)
        (try clear hN5)
        go_wp2_with fail
        have hS9 : ∀ w', Kp V w' → (w'.cell? ⟨g9, 0, none⟩ = some (.bool (decide (qc.num < 0))) ∧ w'.cell? ⟨g9, 1, none⟩ = some (.slice A5 k5 c5) ∧ w'.cell? ⟨g9, 2, none⟩ = some (.bool false) ∧ w'.cell? ⟨g9, 3, none⟩ = some (.slice A6 k6 c6) ∧ w'.cell? ⟨w.heap.size, 0, none⟩ = some (.int .i64 bus) ∧ w'.cell? ⟨w.heap.size, 1, none⟩ = some (.int .i64 mn) ∧ w'.cell? ⟨w.heap.size, 2, none⟩ = some (.slice A' n' c') ∧ w'.cell? ⟨w.heap.size, 3, none⟩ = some (.int .i64 up) ∧ w'.cell? ⟨w.heap.size, 4, none⟩ = some (.int .i64 dn) ∧ w'.cell? ⟨w.heap.size, 5, none⟩ = some (.int .i64 start) ∧ w'.cell? ⟨w.heap.size, 6, none⟩ = some (.int .i64 idle) ∧ w'.cell? ⟨w.heap.size, 7, none⟩ = some (.int .i64 spin) ∧ w'.cell? ⟨w.heap.size, 8, none⟩ = some (.int .i64 on)) ∧ Kp V w' := fun w' hk => by
          obtain ⟨x0, x1, x2, x3, -⟩ := (hk.blk hVb).four
          obtain ⟨y0, y1, y2, y3, y4, y5, y6, y7, y8⟩ := (hk.blk hBu9).nine
          exact ⟨⟨x0, x1, x2, x3, y0, y1, y2, y3, y4, y5, y6, y7, y8⟩, hk⟩
        have HS9 := Lib.hid hS9
        have s9 := Kp.refl V
        clear hS9 hVb hBu9
        go_region_held3 (fun w' => (w'.cell? ⟨g9, 0, none⟩ = some (.bool (decide (qc.num < 0))) ∧ w'.cell? ⟨g9, 1, none⟩ = some (.slice A5 k5 c5) ∧ w'.cell? ⟨g9, 2, none⟩ = some (.bool false) ∧ w'.cell? ⟨g9, 3, none⟩ = some (.slice A6 k6 c6) ∧ w'.cell? ⟨w.heap.size, 0, none⟩ = some (.int .i64 bus) ∧ w'.cell? ⟨w.heap.size, 1, none⟩ = some (.int .i64 mn) ∧ w'.cell? ⟨w.heap.size, 2, none⟩ = some (.slice A' n' c') ∧ w'.cell? ⟨w.heap.size, 3, none⟩ = some (.int .i64 up) ∧ w'.cell? ⟨w.heap.size, 4, none⟩ = some (.int .i64 dn) ∧ w'.cell? ⟨w.heap.size, 5, none⟩ = some (.int .i64 start) ∧ w'.cell? ⟨w.heap.size, 6, none⟩ = some (.int .i64 idle) ∧ w'.cell? ⟨w.heap.size, 7, none⟩ = some (.int .i64 spin) ∧ w'.cell? ⟨w.heap.size, 8, none⟩ = some (.int .i64 on)) ∧ Kp V w')
          (first | (with_reducible refine HS9.out _ ?_; with_reducible assumption) | (with_reducible refine HS9.out _ (Kp.drew ?_); with_reducible assumption) | (with_reducible refine' HS9.out _ (Kp.drew (And.right ?_)); rotate_left; with_reducible assumption))
          (first
            | (go_at_call 37; have hk := And.right ‹_ ∧ Kp V _›; refine (HF2.out _).mono ?_; rintro e v7 ⟨A7, k7, c7, A8, k8, c8, rfl, hk7, hk8, hW7, hW8, hF7, hF8, hb7⟩; have hp7 := Kp.trans hk hb7; clear hk hb7)
            | (go_at_call 40; have hk := And.right ‹_ ∧ Kp V _›; refine (HEQ.out _ A5 A6 A7 A8 k5 c5 k6 c6 k7 c7 k8 c8 (HVC.out.below hk) ⟨hk7, hk8, hW7, hW8, hF7.mono (Nat.zero_le _), hF8.mono (Nat.zero_le _)⟩).mono ?_; rintro e v8 ⟨rfl, hb8⟩; have hp8 := Kp.trans hk hb8; clear hk hb8)
            | (go_at_call 54; have hk := And.right ‹_ ∧ Kp V _›; refine (HMX.out _ ((HSS.out.below HBV.out).below hk)).mono ?_; rintro e v9 ⟨rfl, hb9⟩; have hp9 := Kp.trans hk hb9; clear hk hb9))
        all_goals
          have HBZ := Lib.hid (HBV.out.trans (Below.mono hp9 HBV.out.size))
          go_wp2
          go_ret
          exact ⟨rfl, HBZ.out⟩
      · have hVb : Blk ((((v6.setCell ⟨v5.heap.size, 0, none⟩ (.bool (decide (qc.num < 0)))).setCell ⟨v5.heap.size, 1, none⟩ (.slice A5 k5 c5)).setCell ⟨v5.heap.size, 2, none⟩ (.bool false)).setCell ⟨v5.heap.size, 3, none⟩ (.slice A6 k6 c6)) (v5.heap.size) 31 #[.bool (decide (qc.num < 0)), .slice A5 k5 c5, .bool false, .slice A6 k6 c6] := hN6.set4 _ _ _ _
        have hVc : CQ 0 ((((v6.setCell ⟨v5.heap.size, 0, none⟩ (.bool (decide (qc.num < 0)))).setCell ⟨v5.heap.size, 1, none⟩ (.slice A5 k5 c5)).setCell ⟨v5.heap.size, 2, none⟩ (.bool false)).setCell ⟨v5.heap.size, 3, none⟩ (.slice A6 k6 c6)) qc A5 k5 c5 A6 k6 c6 := (CQ.put4 (o := 0) hC5 hN6 NoInt.four).zb
        have hVk : Kp v1 ((((v6.setCell ⟨v5.heap.size, 0, none⟩ (.bool (decide (qc.num < 0)))).setCell ⟨v5.heap.size, 1, none⟩ (.slice A5 k5 c5)).setCell ⟨v5.heap.size, 2, none⟩ (.bool false)).setCell ⟨v5.heap.size, 3, none⟩ (.slice A6 k6 c6)) := Kp.set4 hp6 (Below.size hp5) _ _ _ _
        generalize (((v6.setCell ⟨v5.heap.size, 0, none⟩ (.bool (decide (qc.num < 0)))).setCell ⟨v5.heap.size, 1, none⟩ (.slice A5 k5 c5)).setCell ⟨v5.heap.size, 2, none⟩ (.bool false)).setCell ⟨v5.heap.size, 3, none⟩ (.slice A6 k6 c6) = V at *
        generalize hgg : v5.heap.size = g9 at *
        have hBu9 := Kp.blk hVk hBu3
        have HBV := Lib.hid (HB1.out.trans (Below.mono hVk HB1.out.size))
        have HVC := Lib.hid hVc
        rename_i hHeld
        clear hHeld
        clear HFI HSC HS hC5 hp5 hp6 hW3 hW4 hk3 hk4 hgg hVc s5
        (try clear z0 z1 z2 z3 z4 z5 z6 z7 hN6)
        (try clear hN5)
        go_wp2_with fail
        have hS9 : ∀ w', Kp V w' → (w'.cell? ⟨g9, 0, none⟩ = some (.bool (decide (qc.num < 0))) ∧ w'.cell? ⟨g9, 1, none⟩ = some (.slice A5 k5 c5) ∧ w'.cell? ⟨g9, 2, none⟩ = some (.bool false) ∧ w'.cell? ⟨g9, 3, none⟩ = some (.slice A6 k6 c6) ∧ w'.cell? ⟨w.heap.size, 0, none⟩ = some (.int .i64 bus) ∧ w'.cell? ⟨w.heap.size, 1, none⟩ = some (.int .i64 mn) ∧ w'.cell? ⟨w.heap.size, 2, none⟩ = some (.slice A' n' c') ∧ w'.cell? ⟨w.heap.size, 3, none⟩ = some (.int .i64 up) ∧ w'.cell? ⟨w.heap.size, 4, none⟩ = some (.int .i64 dn) ∧ w'.cell? ⟨w.heap.size, 5, none⟩ = some (.int .i64 start) ∧ w'.cell? ⟨w.heap.size, 6, none⟩ = some (.int .i64 idle) ∧ w'.cell? ⟨w.heap.size, 7, none⟩ = some (.int .i64 spin) ∧ w'.cell? ⟨w.heap.size, 8, none⟩ = some (.int .i64 on)) ∧ Kp V w' := fun w' hk => by
          obtain ⟨x0, x1, x2, x3, -⟩ := (hk.blk hVb).four
          obtain ⟨y0, y1, y2, y3, y4, y5, y6, y7, y8⟩ := (hk.blk hBu9).nine
          exact ⟨⟨x0, x1, x2, x3, y0, y1, y2, y3, y4, y5, y6, y7, y8⟩, hk⟩
        have HS9 := Lib.hid hS9
        have s9 := Kp.refl V
        clear hS9 hVb hBu9
        go_region_held3 (fun w' => (w'.cell? ⟨g9, 0, none⟩ = some (.bool (decide (qc.num < 0))) ∧ w'.cell? ⟨g9, 1, none⟩ = some (.slice A5 k5 c5) ∧ w'.cell? ⟨g9, 2, none⟩ = some (.bool false) ∧ w'.cell? ⟨g9, 3, none⟩ = some (.slice A6 k6 c6) ∧ w'.cell? ⟨w.heap.size, 0, none⟩ = some (.int .i64 bus) ∧ w'.cell? ⟨w.heap.size, 1, none⟩ = some (.int .i64 mn) ∧ w'.cell? ⟨w.heap.size, 2, none⟩ = some (.slice A' n' c') ∧ w'.cell? ⟨w.heap.size, 3, none⟩ = some (.int .i64 up) ∧ w'.cell? ⟨w.heap.size, 4, none⟩ = some (.int .i64 dn) ∧ w'.cell? ⟨w.heap.size, 5, none⟩ = some (.int .i64 start) ∧ w'.cell? ⟨w.heap.size, 6, none⟩ = some (.int .i64 idle) ∧ w'.cell? ⟨w.heap.size, 7, none⟩ = some (.int .i64 spin) ∧ w'.cell? ⟨w.heap.size, 8, none⟩ = some (.int .i64 on)) ∧ Kp V w')
          (first | (with_reducible refine HS9.out _ ?_; with_reducible assumption) | (with_reducible refine HS9.out _ (Kp.drew ?_); with_reducible assumption) | (with_reducible refine' HS9.out _ (Kp.drew (And.right ?_)); rotate_left; with_reducible assumption))
          (first
            | (go_at_call 37; have hk := And.right ‹_ ∧ Kp V _›; refine (HF2.out _).mono ?_; rintro e v7 ⟨A7, k7, c7, A8, k8, c8, rfl, hk7, hk8, hW7, hW8, hF7, hF8, hb7⟩; have hp7 := Kp.trans hk hb7; clear hk hb7)
            | (go_at_call 40; have hk := And.right ‹_ ∧ Kp V _›; refine (HEQ.out _ A5 A6 A7 A8 k5 c5 k6 c6 k7 c7 k8 c8 (HVC.out.below hk) ⟨hk7, hk8, hW7, hW8, hF7.mono (Nat.zero_le _), hF8.mono (Nat.zero_le _)⟩).mono ?_; rintro e v8 ⟨rfl, hb8⟩; have hp8 := Kp.trans hk hb8; clear hk hb8)
            | (go_at_call 54; have hk := And.right ‹_ ∧ Kp V _›; refine (HMX.out _ ((HSS.out.below HBV.out).below hk)).mono ?_; rintro e v9 ⟨rfl, hb9⟩; have hp9 := Kp.trans hk hb9; clear hk hb9))
        all_goals
          have HBZ := Lib.hid (HBV.out.trans (Below.mono hp9 HBV.out.size))
          go_wp2
          go_ret
          exact ⟨rfl, HBZ.out⟩
      · have hVb : Blk ((((v6.setCell ⟨v1.heap.size, 0, none⟩ (.bool (decide (qc.num < 0)))).setCell ⟨v1.heap.size, 1, none⟩ (.slice A5 k5 c5)).setCell ⟨v1.heap.size, 2, none⟩ (.bool false)).setCell ⟨v1.heap.size, 3, none⟩ (.slice A6 k6 c6)) (v1.heap.size) 31 #[.bool (decide (qc.num < 0)), .slice A5 k5 c5, .bool false, .slice A6 k6 c6] := hN6.set4 _ _ _ _
        have hVc : CQ 0 ((((v6.setCell ⟨v1.heap.size, 0, none⟩ (.bool (decide (qc.num < 0)))).setCell ⟨v1.heap.size, 1, none⟩ (.slice A5 k5 c5)).setCell ⟨v1.heap.size, 2, none⟩ (.bool false)).setCell ⟨v1.heap.size, 3, none⟩ (.slice A6 k6 c6)) qc A5 k5 c5 A6 k6 c6 := (CQ.put4 (o := 0) hC5 hN6 NoInt.four).zb
        have hVk : Kp v1 ((((v6.setCell ⟨v1.heap.size, 0, none⟩ (.bool (decide (qc.num < 0)))).setCell ⟨v1.heap.size, 1, none⟩ (.slice A5 k5 c5)).setCell ⟨v1.heap.size, 2, none⟩ (.bool false)).setCell ⟨v1.heap.size, 3, none⟩ (.slice A6 k6 c6)) := Kp.set4 hp6 (Nat.le_refl _) _ _ _ _
        generalize (((v6.setCell ⟨v1.heap.size, 0, none⟩ (.bool (decide (qc.num < 0)))).setCell ⟨v1.heap.size, 1, none⟩ (.slice A5 k5 c5)).setCell ⟨v1.heap.size, 2, none⟩ (.bool false)).setCell ⟨v1.heap.size, 3, none⟩ (.slice A6 k6 c6) = V at *
        generalize hgg : v1.heap.size = g9 at *
        have hBu9 := Kp.blk hVk hBu3
        have HBV := Lib.hid (HB1.out.trans (Below.mono hVk HB1.out.size))
        have HVC := Lib.hid hVc
        rename_i hHeld
        clear hHeld
        clear HFI HSC HS hC5 hp5 hp6 hW3 hW4 hk3 hk4 hgg hVc s5
        (try clear z0 z1 z2 z3 z4 z5 z6 z7 hN6)
        (try clear hN5)
        go_wp2_with fail
        have hS9 : ∀ w', Kp V w' → (w'.cell? ⟨g9, 0, none⟩ = some (.bool (decide (qc.num < 0))) ∧ w'.cell? ⟨g9, 1, none⟩ = some (.slice A5 k5 c5) ∧ w'.cell? ⟨g9, 2, none⟩ = some (.bool false) ∧ w'.cell? ⟨g9, 3, none⟩ = some (.slice A6 k6 c6) ∧ w'.cell? ⟨w.heap.size, 0, none⟩ = some (.int .i64 bus) ∧ w'.cell? ⟨w.heap.size, 1, none⟩ = some (.int .i64 mn) ∧ w'.cell? ⟨w.heap.size, 2, none⟩ = some (.slice A' n' c') ∧ w'.cell? ⟨w.heap.size, 3, none⟩ = some (.int .i64 up) ∧ w'.cell? ⟨w.heap.size, 4, none⟩ = some (.int .i64 dn) ∧ w'.cell? ⟨w.heap.size, 5, none⟩ = some (.int .i64 start) ∧ w'.cell? ⟨w.heap.size, 6, none⟩ = some (.int .i64 idle) ∧ w'.cell? ⟨w.heap.size, 7, none⟩ = some (.int .i64 spin) ∧ w'.cell? ⟨w.heap.size, 8, none⟩ = some (.int .i64 on)) ∧ Kp V w' := fun w' hk => by
          obtain ⟨x0, x1, x2, x3, -⟩ := (hk.blk hVb).four
          obtain ⟨y0, y1, y2, y3, y4, y5, y6, y7, y8⟩ := (hk.blk hBu9).nine
          exact ⟨⟨x0, x1, x2, x3, y0, y1, y2, y3, y4, y5, y6, y7, y8⟩, hk⟩
        have HS9 := Lib.hid hS9
        have s9 := Kp.refl V
        clear hS9 hVb hBu9
        go_region_held3 (fun w' => (w'.cell? ⟨g9, 0, none⟩ = some (.bool (decide (qc.num < 0))) ∧ w'.cell? ⟨g9, 1, none⟩ = some (.slice A5 k5 c5) ∧ w'.cell? ⟨g9, 2, none⟩ = some (.bool false) ∧ w'.cell? ⟨g9, 3, none⟩ = some (.slice A6 k6 c6) ∧ w'.cell? ⟨w.heap.size, 0, none⟩ = some (.int .i64 bus) ∧ w'.cell? ⟨w.heap.size, 1, none⟩ = some (.int .i64 mn) ∧ w'.cell? ⟨w.heap.size, 2, none⟩ = some (.slice A' n' c') ∧ w'.cell? ⟨w.heap.size, 3, none⟩ = some (.int .i64 up) ∧ w'.cell? ⟨w.heap.size, 4, none⟩ = some (.int .i64 dn) ∧ w'.cell? ⟨w.heap.size, 5, none⟩ = some (.int .i64 start) ∧ w'.cell? ⟨w.heap.size, 6, none⟩ = some (.int .i64 idle) ∧ w'.cell? ⟨w.heap.size, 7, none⟩ = some (.int .i64 spin) ∧ w'.cell? ⟨w.heap.size, 8, none⟩ = some (.int .i64 on)) ∧ Kp V w')
          (first | (with_reducible refine HS9.out _ ?_; with_reducible assumption) | (with_reducible refine HS9.out _ (Kp.drew ?_); with_reducible assumption) | (with_reducible refine' HS9.out _ (Kp.drew (And.right ?_)); rotate_left; with_reducible assumption))
          (first
            | (go_at_call 37; have hk := And.right ‹_ ∧ Kp V _›; refine (HF2.out _).mono ?_; rintro e v7 ⟨A7, k7, c7, A8, k8, c8, rfl, hk7, hk8, hW7, hW8, hF7, hF8, hb7⟩; have hp7 := Kp.trans hk hb7; clear hk hb7)
            | (go_at_call 40; have hk := And.right ‹_ ∧ Kp V _›; refine (HEQ.out _ A5 A6 A7 A8 k5 c5 k6 c6 k7 c7 k8 c8 (HVC.out.below hk) ⟨hk7, hk8, hW7, hW8, hF7.mono (Nat.zero_le _), hF8.mono (Nat.zero_le _)⟩).mono ?_; rintro e v8 ⟨rfl, hb8⟩; have hp8 := Kp.trans hk hb8; clear hk hb8)
            | (go_at_call 54; have hk := And.right ‹_ ∧ Kp V _›; refine (HMX.out _ ((HSS.out.below HBV.out).below hk)).mono ?_; rintro e v9 ⟨rfl, hb9⟩; have hp9 := Kp.trans hk hb9; clear hk hb9))
        all_goals
          have HBZ := Lib.hid (HBV.out.trans (Below.mono hp9 HBV.out.size))
          go_wp2
          go_ret
          exact ⟨rfl, HBZ.out⟩
    · have hz : lcV [⟨bus, mn, l, up, dn, start, idle, spin, on⟩] [true] 1 f = 0 := by unfold lcV; rw [if_neg he]
      rw [hz]
      have HNE := Lib.hid (fun h1 h2 h3 => he (one_err (u := ⟨bus, mn, l, up, dn, start, idle, spin, on⟩) (f := f) h1 h2 h3))
      clear hz hp1
      generalize aerr [⟨bus, mn, l, up, dn, start, idle, spin, on⟩] [true] 1 f = x at *
      have d1 : (x != 0) = true := by simpa using he
      clear he
      go_wp2_with fail
      refine (HCK.out v1 (HSS.out.below HB1.out)).mono ?_
      rintro e v2 ⟨rfl, hb2⟩
      have HB2 := Lib.hid (HB1.out.trans (hb2.mono HB1.out.size))
      have hBu4 := hBu3.below hb2 hBu3.lt
      clear hb2 HCK y0 y1 y2 y3 y4 y5 y6 y7 y8
      obtain ⟨y0, y1, y2, y3, y4, y5, y6, y7, y8⟩ := hBu4.nine
      by_cases k1 : uchk ⟨bus, mn, l, up, dn, start, idle, spin, on⟩ = 0
      · rw [k1]
        have HNE2 := Lib.hid (HNE.out k1)
        clear HNE k1
        by_cases k2 : f < mn
        · have d2 : decide (f < mn) = true := by simpa using k2
          clear HNE2
          go_wp2
          go_ret
          exact ⟨rfl, HB2.out⟩
        · have d2 : decide (f < mn) = false := by simpa using k2
          have HNE3 := Lib.hid (HNE2.out (by show mn ≤ f; omega))
          clear HNE2
          generalize umax ⟨bus, mn, l, up, dn, start, idle, spin, on⟩ = um at *
          have d3 : decide (um < f) = true := by
            simp only [decide_eq_true_eq]
            rcases Int.lt_or_le um f with hx | hx
            · exact hx
            · exact absurd hx HNE3.out
          clear HNE3
          go_wp2_with fail
          refine (HMX.out v2 (HSS.out.below HB2.out)).mono ?_
          rintro e v3 ⟨rfl, hb3⟩
          have HB3 := Lib.hid (HB2.out.trans (hb3.mono HB2.out.size))
          clear hb3 HMX
          go_wp2
          go_ret
          exact ⟨rfl, HB3.out⟩
      · generalize uchk ⟨bus, mn, l, up, dn, start, idle, spin, on⟩ = z at *
        have d2 : (z != 0) = true := by simpa using k1
        clear k1 HNE HMX
        go_wp2
        go_ret
        exact ⟨rfl, HB2.out⟩
  · rw [hlg] at T1
    have HT1 := Lib.hid T1
    clear T1 hlg hU1 hB1
    refine HT1.out.mono ?_
    rintro e w1 ⟨rfl, rfl⟩
    clear HT1
    go_wp2_with fail
    refine (HAW.out _).mono ?_
    rintro e w2 ⟨rfl, hb2⟩
    have HB2 := Lib.hid (HBW.out.trans (hb2.mono HBW.out.size))
    clear hb2
    go_wp2
    go_ret
    exact ⟨rfl, HB2.out⟩

end Go.Proofs.YthpldmlpononhaaGreat
