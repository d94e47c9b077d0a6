/-
Package unit: states and fixed costs. Package unit: Initial, Next, Feasible, Starts, FixedCost. Package unit: Starts, FixedCost. No statement of the seat is proved here; no conditions beyond those of each theorem.
-/
import Derived.Test.YtdoeejcmaeefcaaGreatHQ
namespace Go.Proofs.YtdoeejcmaeefcaaGreat
set_option linter.unusedVariables false
set_option linter.unusedSimpArgs false
open Go.RowKit
open Wd
open Cm

theorem uvalid_raw (bus mn up dn start idle spin on : Int) (A : Option Addr) (n c : Nat) (l : List (Int × Int)) (w : World) (h : StAt w A n l) (hm : n ≤ 1000000000000) :
    Calls Tryz.prog 41 #[.agg #[.int .i64 bus, .int .i64 mn, .slice A n c, .int .i64 up, .int .i64 dn, .int .i64 start, .int .i64 idle, .int .i64 spin, .int .i64 on]] w fun e w' => e = .returned (.bool (decide (uchk (⟨bus, mn, l, up, dn, start, idle, spin, on⟩ : Un) = 0))) ∧ Below w.heap.size w w' := by
  have T := Lib.hid (fun W (hW : Below w.heap.size w W) => ucheck_raw bus mn up dn start idle spin on A n c l W (h.below hW) hm)
  have he : (uchk (⟨bus, mn, l, up, dn, start, idle, spin, on⟩ : Un) == 0) = decide (uchk (⟨bus, mn, l, up, dn, start, idle, spin, on⟩ : Un) = 0) := rfl
  generalize uchk (⟨bus, mn, l, up, dn, start, idle, spin, on⟩ : Un) = x at *
  clear h
  have HE := Lib.hid he
  clear he
  go_enter Tryz.func41, Tryz.ntmps41
  go_wp2_with fail
  have hBX := Blk.new w 39 #[.int .i64 bus, .int .i64 mn, .slice A n c, .int .i64 up, .int .i64 dn, .int .i64 start, .int .i64 idle, .int .i64 spin, .int .i64 on]
  obtain ⟨u0, u1, u2, u3, u4, u5, u6, u7, u8⟩ := hBX.nine
  have hb0 : Below w.heap.size w (w.alloc (.cells #[.int .i64 bus, .int .i64 mn, .slice A n c, .int .i64 up, .int .i64 dn, .int .i64 start, .int .i64 idle, .int .i64 spin, .int .i64 on] 39)) := (Below.refl _ _).alloc (Nat.le_refl _) _
  generalize w.alloc (.cells #[.int .i64 bus, .int .i64 mn, .slice A n c, .int .i64 up, .int .i64 dn, .int .i64 start, .int .i64 idle, .int .i64 spin, .int .i64 on] 39) = W at *
  refine (T.out W hb0).mono ?_
  rintro e w1 ⟨rfl, hb1⟩
  have HB := Lib.hid (hb0.trans (hb1.mono hb0.size))
  clear hb1 T
  go_wp2
  go_ret
  exact ⟨rfl, HB.out⟩

theorem uinitial_raw (bus mn up dn start idle spin on : Int) (A : Option Addr) (n c : Nat) (l : List (Int × Int)) (w : World) (h1 : 1 ≤ up ∧ up ≤ 6) (h2 : 1 ≤ dn ∧ dn ≤ 6) :
    Calls Tryz.prog 42 #[.agg #[.int .i64 bus, .int .i64 mn, .slice A n c, .int .i64 up, .int .i64 dn, .int .i64 start, .int .i64 idle, .int .i64 spin, .int .i64 on]] w fun e w' => e = .returned (.int .i64 (uinit (⟨bus, mn, l, up, dn, start, idle, spin, on⟩ : Un))) ∧ Below w.heap.size w w' := by
  have wl : IntKind.i64.wrap (-dn) = -dn := IntWalk.i64_in _ (by omega)
  have HE := Lib.hid (show uinit (⟨bus, mn, l, up, dn, start, idle, spin, on⟩ : Un) = max (min on up) (-dn) from rfl)
  have hb0 : Below w.heap.size w (w.alloc (.cells #[.int .i64 bus, .int .i64 mn, .slice A n c, .int .i64 up, .int .i64 dn, .int .i64 start, .int .i64 idle, .int .i64 spin, .int .i64 on] 39)) := (Below.refl _ _).alloc (Nat.le_refl _) _
  have HB := Lib.hid hb0
  clear hb0
  go_enter Tryz.func42, Tryz.ntmps42
  go_wp2
  go_ret
  exact ⟨by rw [HE.out]; rfl, HB.out⟩

theorem unext_raw (bus mn up dn start idle spin on : Int) (A : Option Addr) (n c : Nat) (l : List (Int × Int)) (s : Int) (b : Bool) (w : World) (h1 : 1 ≤ up ∧ up ≤ 6) (h2 : 1 ≤ dn ∧ dn ≤ 6) (hs : -6 ≤ s ∧ s ≤ 6) :
    Calls Tryz.prog 43 #[.agg #[.int .i64 bus, .int .i64 mn, .slice A n c, .int .i64 up, .int .i64 dn, .int .i64 start, .int .i64 idle, .int .i64 spin, .int .i64 on], .int .i64 s, .bool b] w fun e w' => e = .returned (.tuple #[.int .i64 ((unext (⟨bus, mn, l, up, dn, start, idle, spin, on⟩ : Un) s b).getD 0), .bool (unext (⟨bus, mn, l, up, dn, start, idle, spin, on⟩ : Un) s b).isSome]) ∧ Below w.heap.size w w' := by
  have wl : IntKind.i64.wrap (-dn) = -dn := IntWalk.i64_in _ (by omega)
  have w2 : IntKind.i64.wrap (s + 1) = s + 1 := IntWalk.i64_in _ (by omega)
  have w3 : IntKind.i64.wrap (s - 1) = s - 1 := IntWalk.i64_in _ (by omega)
  have hb0 : Below w.heap.size w (w.alloc (.cells #[.int .i64 bus, .int .i64 mn, .slice A n c, .int .i64 up, .int .i64 dn, .int .i64 start, .int .i64 idle, .int .i64 spin, .int .i64 on] 39)) := (Below.refl _ _).alloc (Nat.le_refl _) _
  have HB := Lib.hid hb0
  have HE := Lib.hid (show unext (⟨bus, mn, l, up, dn, start, idle, spin, on⟩ : Un) s b = if b = true ∧ 0 < s then some (min (s + 1) up) else if b = true ∧ s = -dn then some 1 else if b = false ∧ s < 0 then some (max (s - 1) (-dn)) else if b = false ∧ s = up then some (-1) else none from rfl)
  clear hb0 h1 h2 hs
  cases b
  · have hnf : (!false) = true := rfl
    by_cases c1 : s < 0
    · have he := HE.out
      rw [if_neg (by simp), if_neg (by simp), if_pos ⟨rfl, c1⟩] at he
      have HE2 := Lib.hid he
      clear he HE
      go_enter Tryz.func43, Tryz.ntmps43
      go_wp2
      go_ret2
      exact ⟨by rw [HE2.out]; rfl, HB.out⟩
    · by_cases c2 : s = up
      · have hb : (s == up) = true := by simpa using c2
        have he := HE.out
        rw [if_neg (by simp), if_neg (by simp), if_neg (by simp [c1]), if_pos ⟨rfl, c2⟩] at he
        have HE2 := Lib.hid he
        clear he HE c2
        go_enter Tryz.func43, Tryz.ntmps43
        go_wp2
        go_ret2
        exact ⟨by rw [HE2.out]; rfl, HB.out⟩
      · have hb : (s == up) = false := by simpa using c2
        have he := HE.out
        rw [if_neg (by simp), if_neg (by simp), if_neg (by simp [c1]), if_neg (by simp [c2])] at he
        have HE2 := Lib.hid he
        clear he HE c2
        go_enter Tryz.func43, Tryz.ntmps43
        go_wp2
        go_ret2
        exact ⟨by rw [HE2.out]; rfl, HB.out⟩
  · have hnf : (!true) = false := rfl
    by_cases c1 : 0 < s
    · have he := HE.out
      rw [if_pos ⟨rfl, c1⟩] at he
      have HE2 := Lib.hid he
      clear he HE
      go_enter Tryz.func43, Tryz.ntmps43
      go_wp2
      go_ret2
      exact ⟨by rw [HE2.out]; rfl, HB.out⟩
    · by_cases c2 : s = -dn
      · have hb : (s == -dn) = true := by simpa using c2
        have he := HE.out
        rw [if_neg (by simp [c1]), if_pos ⟨rfl, c2⟩] at he
        have HE2 := Lib.hid he
        clear he HE c2
        go_enter Tryz.func43, Tryz.ntmps43
        go_wp2
        go_ret2
        exact ⟨by rw [HE2.out]; rfl, HB.out⟩
      · have hb : (s == -dn) = false := by simpa using c2
        have he := HE.out
        rw [if_neg (by simp [c1]), if_neg (by simp [c2]), if_neg (by simp), if_neg (by simp)] at he
        have HE2 := Lib.hid he
        clear he HE c2
        go_enter Tryz.func43, Tryz.ntmps43
        go_wp2
        go_ret2
        exact ⟨by rw [HE2.out]; rfl, HB.out⟩

end Go.Proofs.YtdoeejcmaeefcaaGreat

namespace Go.Proofs.YtdoeejcmaeefcaaGreat
set_option linter.unusedVariables false
set_option linter.unusedSimpArgs false
open Go.RowKit
open Wd
open Cm

theorem dropB {bs : List Bool} {k : Nat} (hk : k < bs.length) : bs.drop k = (bs[k]?.getD false) :: bs.drop (k + 1) := by
  rw [List.drop_eq_getElem_cons hk, List.getElem?_eq_getElem hk]
  rfl
theorem ufeas_hit {u : Un} {s t : Int} {b : Bool} {r : List Bool} (h : unext u s b = some t) : ufeas u s (b :: r) = ufeas u t r := by rw [ufeas, h]
theorem ufeas_miss {u : Un} {s : Int} {b : Bool} {r : List Bool} (h : unext u s b = none) : ufeas u s (b :: r) = false := by rw [ufeas, h]

set_option maxRecDepth 100000 in
set_option maxHeartbeats 1000000 in
theorem uInitial_raw (bus mn up dn start idle spin on : Int) (A : Option Addr) (n c : Nat) (l : List (Int × Int)) (w : World) (h : StAt w A n l) (hm : n ≤ 1000000000000) (hv : uchk (⟨bus, mn, l, up, dn, start, idle, spin, on⟩ : Un) = 0) :
    Calls Tryz.prog 20 #[.agg #[.int .i64 bus, .int .i64 mn, .slice A n c, .int .i64 up, .int .i64 dn, .int .i64 start, .int .i64 idle, .int .i64 spin, .int .i64 on]] w fun e w' => e = .returned (.int .i64 (uinit (⟨bus, mn, l, up, dn, start, idle, spin, on⟩ : Un))) ∧ Below w.heap.size w w' := by
  have T := Lib.hid (fun W (hW : Below w.heap.size w W) => uvalid_raw bus mn up dn start idle spin on A n c l W (h.below hW) hm)
  have hr := uchk_rest hv
  simp only at hr
  have TI := Lib.hid (fun W => uinitial_raw bus mn up dn start idle spin on A n c l W (by omega) (by omega))
  rw [decide_eq_true hv] at T
  generalize uinit (⟨bus, mn, l, up, dn, start, idle, spin, on⟩ : Un) = s0 at *
  clear h hv hr
  go_enter Tryz.func20, Tryz.ntmps20
  go_wp2_with fail
  have hBX := Blk.new w 39 #[.int .i64 bus, .int .i64 mn, .slice A n c, .int .i64 up, .int .i64 dn, .int .i64 start, .int .i64 idle, .int .i64 spin, .int .i64 on]
  obtain ⟨u0, u1, u2, u3, u4, u5, u6, u7, u8⟩ := hBX.nine
  have hb0 : Below w.heap.size w (w.alloc (.cells #[.int .i64 bus, .int .i64 mn, .slice A n c, .int .i64 up, .int .i64 dn, .int .i64 start, .int .i64 idle, .int .i64 spin, .int .i64 on] 39)) := (Below.refl _ _).alloc (Nat.le_refl _) _
  generalize w.alloc (.cells #[.int .i64 bus, .int .i64 mn, .slice A n c, .int .i64 up, .int .i64 dn, .int .i64 start, .int .i64 idle, .int .i64 spin, .int .i64 on] 39) = W at *
  refine (T.out W hb0).mono ?_
  rintro e w1 ⟨rfl, hb1⟩
  have HBX := Lib.hid (hBX.below hb1 hBX.lt)
  obtain ⟨v0, v1, v2, v3, v4, v5, v6, v7, v8⟩ := HBX.out.nine
  have HB := Lib.hid (hb0.trans (hb1.mono hb0.size))
  clear hb1 hb0 hBX u0 u1 u2 u3 u4 u5 u6 u7 u8 T
  go_wp2_with fail
  refine (TI.out w1).mono ?_
  rintro e w2 ⟨rfl, hb2⟩
  have HB2 := Lib.hid (HB.out.trans (hb2.mono HB.out.size))
  clear hb2 TI v0 v1 v2 v3 v4 v5 v6 v7 v8
  go_wp2
  go_ret
  exact ⟨rfl, HB2.out⟩

set_option maxRecDepth 100000 in
set_option maxHeartbeats 2000000 in
theorem uNext_raw (bus mn up dn start idle spin on : Int) (A : Option Addr) (n c : Nat) (l : List (Int × Int)) (s : Int) (b : Bool) (w : World) (h : StAt w A n l) (hm : n ≤ 1000000000000) (hv : uchk (⟨bus, mn, l, up, dn, start, idle, spin, on⟩ : Un) = 0) (hs : StOk (⟨bus, mn, l, up, dn, start, idle, spin, on⟩ : Un) s) :
    Calls Tryz.prog 21 #[.agg #[.int .i64 bus, .int .i64 mn, .slice A n c, .int .i64 up, .int .i64 dn, .int .i64 start, .int .i64 idle, .int .i64 spin, .int .i64 on], .int .i64 s, .bool b] w fun e w' => e = .returned (.tuple #[.int .i64 ((unext (⟨bus, mn, l, up, dn, start, idle, spin, on⟩ : Un) s b).getD 0), .bool (unext (⟨bus, mn, l, up, dn, start, idle, spin, on⟩ : Un) s b).isSome]) ∧ Below w.heap.size w w' := by
  have T := Lib.hid (fun W (hW : Below w.heap.size w W) => uvalid_raw bus mn up dn start idle spin on A n c l W (h.below hW) hm)
  have hr := uchk_rest hv
  unfold StOk at hs
  simp only at hr hs
  have TN := Lib.hid (fun W => unext_raw bus mn up dn start idle spin on A n c l s b W (by omega) (by omega) (by omega))
  rw [decide_eq_true hv] at T
  generalize (unext (⟨bus, mn, l, up, dn, start, idle, spin, on⟩ : Un) s b).getD 0 = t at *
  generalize (unext (⟨bus, mn, l, up, dn, start, idle, spin, on⟩ : Un) s b).isSome = f at *
  have c0 : (s == 0) = false := by simp; omega
  have c1 : ¬ up < s := by omega
  have c2 : ¬ s < -dn := by omega
  have wl : IntKind.i64.wrap (-dn) = -dn := IntWalk.i64_in _ (by omega)
  clear h hv hr hs
  go_enter Tryz.func21, Tryz.ntmps21
  go_wp2_with fail
  have hBX := Blk.new w 39 #[.int .i64 bus, .int .i64 mn, .slice A n c, .int .i64 up, .int .i64 dn, .int .i64 start, .int .i64 idle, .int .i64 spin, .int .i64 on]
  obtain ⟨u0, u1, u2, u3, u4, u5, u6, u7, u8⟩ := hBX.nine
  have hb0 : Below w.heap.size w (w.alloc (.cells #[.int .i64 bus, .int .i64 mn, .slice A n c, .int .i64 up, .int .i64 dn, .int .i64 start, .int .i64 idle, .int .i64 spin, .int .i64 on] 39)) := (Below.refl _ _).alloc (Nat.le_refl _) _
  generalize w.alloc (.cells #[.int .i64 bus, .int .i64 mn, .slice A n c, .int .i64 up, .int .i64 dn, .int .i64 start, .int .i64 idle, .int .i64 spin, .int .i64 on] 39) = W at *
  refine (T.out W hb0).mono ?_
  rintro e w1 ⟨rfl, hb1⟩
  have HBX := Lib.hid (hBX.below hb1 hBX.lt)
  obtain ⟨v0, v1, v2, v3, v4, v5, v6, v7, v8⟩ := HBX.out.nine
  have HB := Lib.hid (hb0.trans (hb1.mono hb0.size))
  clear hb1 hb0 hBX u0 u1 u2 u3 u4 u5 u6 u7 u8 T
  go_wp2_with fail
  refine (TN.out w1).mono ?_
  rintro e w2 ⟨rfl, hb2⟩
  have HB2 := Lib.hid (HB.out.trans (hb2.mono HB.out.size))
  clear hb2 TN v0 v1 v2 v3 v4 v5 v6 v7 v8
  go_wp2
  go_ret2
  exact ⟨rfl, HB2.out⟩

set_option maxRecDepth 100000 in
set_option maxHeartbeats 4000000 in
theorem ufeasible_raw (bus mn up dn start idle spin on : Int) (A : Option Addr) (n c : Nat) (l : List (Int × Int)) (B : Option Addr) (m d : Nat) (bs : List Bool) (w : World) (h : StAt w A n l) (hm : n ≤ 1000000000000) (hv : uchk (⟨bus, mn, l, up, dn, start, idle, spin, on⟩ : Un) = 0) (hB : BsAt w B m bs) (hmm : m ≤ 1000) :
    Calls Tryz.prog 32 #[.agg #[.int .i64 bus, .int .i64 mn, .slice A n c, .int .i64 up, .int .i64 dn, .int .i64 start, .int .i64 idle, .int .i64 spin, .int .i64 on], .slice B m d] w fun e w' => e = .returned (.bool (ufeas (⟨bus, mn, l, up, dn, start, idle, spin, on⟩ : Un) (uinit (⟨bus, mn, l, up, dn, start, idle, spin, on⟩ : Un)) bs)) ∧ Below w.heap.size w w' := by
  have T := Lib.hid (fun W (hW : Below w.heap.size w W) => uvalid_raw bus mn up dn start idle spin on A n c l W (h.below hW) hm)
  have hr := uchk_rest hv
  have hok := uinit_ok hv
  simp only at hr
  have TI := Lib.hid (fun W => uinitial_raw bus mn up dn start idle spin on A n c l W (by omega) (by omega))
  have TN := Lib.hid (fun (s : Int) (b : Bool) W (hs : StOk (⟨bus, mn, l, up, dn, start, idle, spin, on⟩ : Un) s) => unext_raw bus mn up dn start idle spin on A n c l s b W (by omega) (by omega) (by unfold StOk at hs; simp only at hs; omega))
  rw [decide_eq_true hv] at T
  have HV := Lib.hid hv
  have HBS := Lib.hid hB
  generalize hU : (⟨bus, mn, l, up, dn, start, idle, spin, on⟩ : Un) = u at *
  have HOK := Lib.hid hok
  clear h hv hr hB hok hU
  go_enter Tryz.func32, Tryz.ntmps32
  go_wp2_with fail
  have hBX := Blk.new w 39 #[.int .i64 bus, .int .i64 mn, .slice A n c, .int .i64 up, .int .i64 dn, .int .i64 start, .int .i64 idle, .int .i64 spin, .int .i64 on]
  obtain ⟨u0, u1, u2, u3, u4, u5, u6, u7, u8⟩ := hBX.nine
  have hb0 : Below w.heap.size w (w.alloc (.cells #[.int .i64 bus, .int .i64 mn, .slice A n c, .int .i64 up, .int .i64 dn, .int .i64 start, .int .i64 idle, .int .i64 spin, .int .i64 on] 39)) := (Below.refl _ _).alloc (Nat.le_refl _) _
  generalize w.alloc (.cells #[.int .i64 bus, .int .i64 mn, .slice A n c, .int .i64 up, .int .i64 dn, .int .i64 start, .int .i64 idle, .int .i64 spin, .int .i64 on] 39) = W at *
  refine (T.out W hb0).mono ?_
  rintro e w1 ⟨rfl, hb1⟩
  have HBX := Lib.hid (hBX.below hb1 hBX.lt)
  obtain ⟨v0, v1, v2, v3, v4, v5, v6, v7, v8⟩ := HBX.out.nine
  have HB := Lib.hid (hb0.trans (hb1.mono hb0.size))
  clear hb1 hb0 hBX u0 u1 u2 u3 u4 u5 u6 u7 u8 T
  go_wp2_with fail
  refine (TI.out w1).mono ?_
  rintro e w2 ⟨rfl, hb2⟩
  have HB2 := Lib.hid (HB.out.trans (hb2.mono HB.out.size))
  have HBX2 := Lib.hid (HBX.out.below hb2 HBX.out.lt)
  clear hb2 TI v0 v1 v2 v3 v4 v5 v6 v7 v8 HB HBX
  go_wp2_with fail
  go_loopw [5, 17] (fun ts t wr => ∃ (k : Nat) (s : Int), k ≤ m ∧ t = .int .i64 k ∧ ts = .int .i64 s ∧ Hid (Below w.heap.size w wr ∧ Blk wr w.heap.size 39 #[.int .i64 bus, .int .i64 mn, .slice A n c, .int .i64 up, .int .i64 dn, .int .i64 start, .int .i64 idle, .int .i64 spin, .int .i64 on] ∧ StOk u s ∧ ufeas u (uinit u) bs = ufeas u s (bs.drop k))) (fun _ t _ => m - (intOf t).toNat)
  case atStart => exact ⟨0, uinit u, Nat.zero_le _, rfl, rfl, HB2.out, HBX2.out, HOK.out, by simp⟩
  case round =>
    clear HB2 HBX2
    obtain ⟨k, s, hk, rfl, rfl, hR⟩ := hrel
    by_cases hlt : k < m
    · obtain ⟨b', o', rfl, hb', hc⟩ := HBS.out.2 (by omega)
      have hcl := (hR.out.1.cell (p := ⟨b', o' + k, none⟩) hb').trans (hc k hlt)
      have hd := dropB (bs := bs) (k := k) (by rw [HBS.out.1]; exact hlt)
      obtain ⟨v0, v1, v2, v3, v4, v5, v6, v7, v8⟩ := hR.out.2.1.nine
      have hTN := TN.out s (bs[k]?.getD false) wr hR.out.2.2.1
      have hrel := hR.out.2.2.2
      rw [hd] at hrel
      have hst := fun t ht => unext_ok (t := t) HV.out hR.out.2.2.1 (b := bs[k]?.getD false) ht
      generalize bs[k]?.getD false = b at *
      have HST := Lib.hid hst
      have HRL := Lib.hid hrel
      have HTN := Lib.hid hTN
      have HBW := Lib.hid (And.intro hR.out.1 hR.out.2.1)
      have k1 : (0 : Int) ≤ (k : Int) := by omega
      have k2 : (k : Int) < (m : Int) := by omega
      clear hc hd hst hrel hTN hR
      cases hn : unext u s b with
      | none =>
        rw [hn] at HTN
        have HF := Lib.hid (HRL.out.trans (ufeas_miss hn))
        clear hn HRL HST
        go_wp2_with fail
        refine HTN.out.mono ?_
        rintro e w3 ⟨rfl, hb3⟩
        have HB3 := Lib.hid (HBW.out.1.trans (hb3.mono HBW.out.1.size))
        clear hb3 HTN HBW
        have hs1 : (none : Option Int).isSome = false := rfl
        go_wp2
        go_ret
        exact ⟨by rw [HF.out]; rfl, HB3.out⟩
      | some t =>
        rw [hn] at HTN
        have HF := Lib.hid (HRL.out.trans (ufeas_hit hn))
        have HT := Lib.hid (HST.out t hn).1
        clear hn HRL HST
        go_wp2_with fail
        refine HTN.out.mono ?_
        rintro e w3 ⟨rfl, hb3⟩
        have HB3 := Lib.hid (And.intro (HBW.out.1.trans (hb3.mono HBW.out.1.size)) (HBW.out.2.below hb3 HBW.out.2.lt))
        clear hb3 HTN HBW v0 v1 v2 v3 v4 v5 v6 v7 v8
        have hs1 : (some t : Option Int).isSome = true := rfl
        have hs2 : (some t : Option Int).getD 0 = t := rfl
        go_wp2
        go_roundw
        case rel => exact ⟨k + 1, t, by omega, by go_num, rfl, HB3.out.1, HB3.out.2, HT.out, HF.out⟩
        case measure => simp [intOf]; omega
    · obtain rfl : m = k := by omega
      have hrel := hR.out.2.2.2
      rw [List.drop_eq_nil_of_le (by rw [HBS.out.1]; exact Nat.le_refl _)] at hrel
      have HF := Lib.hid (hrel.trans (show ufeas u s [] = true from rfl))
      have HBW := Lib.hid hR.out.1
      clear hrel hR
      go_wp2
      go_ret
      exact ⟨by rw [HF.out]; rfl, HBW.out⟩

end Go.Proofs.YtdoeejcmaeefcaaGreat

namespace Go.Proofs.YtdoeejcmaeefcaaGreat
set_option linter.unusedVariables false
set_option linter.unusedSimpArgs false
open Go.RowKit
open Wd
open Cm

theorem ustarts_bd : ∀ (p : Bool) (bs : List Bool), 0 ≤ ustarts p bs ∧ ustarts p bs ≤ bs.length
  | _, [] => by simp [ustarts]
  | p, b :: r => by
    have := ustarts_bd b r
    rw [ustarts, List.length_cons]
    split <;> omega
theorem uon_bd : ∀ (bs : List Bool), 0 ≤ uon bs ∧ uon bs ≤ bs.length
  | [] => by simp [uon]
  | b :: r => by
    have := uon_bd r
    rw [uon, List.length_cons]
    split <;> omega

set_option maxRecDepth 100000 in
set_option maxHeartbeats 4000000 in
theorem ustarts_raw (bus mn up dn start idle spin on : Int) (A : Option Addr) (n c : Nat) (l : List (Int × Int)) (B : Option Addr) (m d : Nat) (bs : List Bool) (w : World) (h : StAt w A n l) (hm : n ≤ 1000000000000) (hv : uchk (⟨bus, mn, l, up, dn, start, idle, spin, on⟩ : Un) = 0) (hB : BsAt w B m bs) (hmm : m ≤ 1000) :
    Calls Tryz.prog 49 #[.agg #[.int .i64 bus, .int .i64 mn, .slice A n c, .int .i64 up, .int .i64 dn, .int .i64 start, .int .i64 idle, .int .i64 spin, .int .i64 on], .slice B m d] w fun e w' => e = .returned (.int .i64 (ustarts (decide (0 < on)) bs)) ∧ Below w.heap.size w w' := by
  have T := Lib.hid (fun W (hW : Below w.heap.size w W) => uvalid_raw bus mn up dn start idle spin on A n c l W (h.below hW) hm)
  rw [decide_eq_true hv] at T
  have HBS := Lib.hid hB
  clear h hv hB
  go_enter Tryz.func49, Tryz.ntmps49
  go_wp2_with fail
  have hBX := Blk.new w 39 #[.int .i64 bus, .int .i64 mn, .slice A n c, .int .i64 up, .int .i64 dn, .int .i64 start, .int .i64 idle, .int .i64 spin, .int .i64 on]
  obtain ⟨u0, u1, u2, u3, u4, u5, u6, u7, u8⟩ := hBX.nine
  have hb0 : Below w.heap.size w (w.alloc (.cells #[.int .i64 bus, .int .i64 mn, .slice A n c, .int .i64 up, .int .i64 dn, .int .i64 start, .int .i64 idle, .int .i64 spin, .int .i64 on] 39)) := (Below.refl _ _).alloc (Nat.le_refl _) _
  generalize w.alloc (.cells #[.int .i64 bus, .int .i64 mn, .slice A n c, .int .i64 up, .int .i64 dn, .int .i64 start, .int .i64 idle, .int .i64 spin, .int .i64 on] 39) = W at *
  refine (T.out W hb0).mono ?_
  rintro e w1 ⟨rfl, hb1⟩
  have HBX := Lib.hid (hBX.below hb1 hBX.lt)
  obtain ⟨v0, v1, v2, v3, v4, v5, v6, v7, v8⟩ := HBX.out.nine
  have HB := Lib.hid (hb0.trans (hb1.mono hb0.size))
  clear hb1 hb0 hBX u0 u1 u2 u3 u4 u5 u6 u7 u8 T
  go_wp2_with fail
  go_loopw [5, 6, 17] (fun ts tp t wr => ∃ (k : Nat) (z : Int) (q : Bool), k ≤ m ∧ t = .int .i64 k ∧ ts = .int .i64 z ∧ tp = .bool q ∧ Hid (Below w.heap.size w wr ∧ ustarts (decide (0 < on)) bs = z + ustarts q (bs.drop k) ∧ 0 ≤ z ∧ z ≤ k)) (fun _ _ t _ => m - (intOf t).toNat)
  case atStart => exact ⟨0, 0, decide (0 < on), Nat.zero_le _, rfl, rfl, rfl, HB.out, by simp, Int.le_refl _, Int.le_refl _⟩
  case round =>
    clear HB HBX v0 v1 v2 v3 v4 v5 v6 v7 v8
    obtain ⟨k, z, q, hk, rfl, rfl, rfl, hR⟩ := hrel
    by_cases hlt : k < m
    · obtain ⟨b', o', rfl, hb', hc⟩ := HBS.out.2 (by omega)
      have hcl := (hR.out.1.cell (p := ⟨b', o' + k, none⟩) hb').trans (hc k hlt)
      have hd := dropB (bs := bs) (k := k) (by rw [HBS.out.1]; exact hlt)
      have hrel := hR.out.2.1
      rw [hd, ustarts] at hrel
      obtain ⟨z1, z2⟩ := hR.out.2.2
      generalize bs[k]?.getD false = b at *
      have HBW := Lib.hid hR.out.1
      have HRL := Lib.hid hrel
      have k1 : (0 : Int) ≤ (k : Int) := by omega
      have k2 : (k : Int) < (m : Int) := by omega
      have wl : IntKind.i64.wrap (z + 1) = z + 1 := IntWalk.i64_in _ (by omega)
      clear hc hd hrel hR
      cases b <;> cases q
      · go_wp2
        go_roundw
        case rel => exact ⟨k + 1, z, false, by omega, by go_num, rfl, rfl, HBW.out, by have := HRL.out; simp at this; exact this, by omega, by omega⟩
        case measure => simp [intOf]; omega
      · go_wp2
        go_roundw
        case rel => exact ⟨k + 1, z, false, by omega, by go_num, rfl, rfl, HBW.out, by have := HRL.out; simp at this; exact this, by omega, by omega⟩
        case measure => simp [intOf]; omega
      · have hnf : (!false) = true := rfl
        go_wp2
        go_roundw
        case rel => exact ⟨k + 1, z + 1, true, by omega, by go_num, rfl, rfl, HBW.out, by have := HRL.out; simp at this; omega, by omega, by omega⟩
        case measure => simp [intOf]; omega
      · have hnf : (!true) = false := rfl
        go_wp2
        go_roundw
        case rel => exact ⟨k + 1, z, true, by omega, by go_num, rfl, rfl, HBW.out, by have := HRL.out; simp at this; exact this, by omega, by omega⟩
        case measure => simp [intOf]; omega
    · obtain rfl : m = k := by omega
      have hrel := hR.out.2.1
      rw [List.drop_eq_nil_of_le (by rw [HBS.out.1]; exact Nat.le_refl _), ustarts, Int.add_zero] at hrel
      have HF := Lib.hid hrel
      have HBW := Lib.hid hR.out.1
      clear hrel hR
      go_wp2
      go_ret
      exact ⟨by rw [HF.out]; rfl, HBW.out⟩

set_option maxRecDepth 100000 in
set_option maxHeartbeats 4000000 in
theorem ufixed_raw (bus mn up dn start idle spin on : Int) (A : Option Addr) (n c : Nat) (l : List (Int × Int)) (B : Option Addr) (m d : Nat) (bs : List Bool) (w : World) (h : StAt w A n l) (hm : n ≤ 1000000000000) (hv : uchk (⟨bus, mn, l, up, dn, start, idle, spin, on⟩ : Un) = 0) (hB : BsAt w B m bs) (hmm : m ≤ 1000) :
    Calls Tryz.prog 33 #[.agg #[.int .i64 bus, .int .i64 mn, .slice A n c, .int .i64 up, .int .i64 dn, .int .i64 start, .int .i64 idle, .int .i64 spin, .int .i64 on], .slice B m d] w fun e w' => e = .returned (.int .i64 (ucost (⟨bus, mn, l, up, dn, start, idle, spin, on⟩ : Un) bs)) ∧ Below w.heap.size w w' := by
  have T := Lib.hid (fun W (hW : Below w.heap.size w W) => uvalid_raw bus mn up dn start idle spin on A n c l W (h.below hW) hm)
  have TS := Lib.hid (fun W (hW : Below w.heap.size w W) => ustarts_raw bus mn up dn start idle spin on A n c l B m d bs W (h.below hW) hm hv (hB.below hW) hmm)
  have hr := uchk_rest hv
  simp only at hr
  obtain ⟨-, -, -, -, r1, r2, r3, r4, -⟩ := hr
  rw [decide_eq_true hv] at T
  have HBS := Lib.hid hB
  have HU := Lib.hid (show ucost (⟨bus, mn, l, up, dn, start, idle, spin, on⟩ : Un) bs = start * ustarts (decide (0 < on)) bs + idle * uon bs from rfl)
  have hsb := ustarts_bd (decide (0 < on)) bs
  rw [hB.1] at hsb
  generalize ucost (⟨bus, mn, l, up, dn, start, idle, spin, on⟩ : Un) bs = uc at *
  generalize ustarts (decide (0 < on)) bs = zs at *
  have hp1 : 0 ≤ start * zs := Int.mul_nonneg r1 hsb.1
  have hp2 : start * zs ≤ 1000000000 * 1000 := Int.le_trans (Int.mul_le_mul_of_nonneg_right r2 hsb.1) (Int.mul_le_mul_of_nonneg_left (by omega) (by omega))
  have wl : IntKind.i64.wrap (start * zs) = start * zs := IntWalk.i64_in _ (by omega)
  clear h hv hB hsb
  go_enter Tryz.func33, Tryz.ntmps33
  go_wp2_with fail
  have hBX := Blk.new w 39 #[.int .i64 bus, .int .i64 mn, .slice A n c, .int .i64 up, .int .i64 dn, .int .i64 start, .int .i64 idle, .int .i64 spin, .int .i64 on]
  obtain ⟨u0, u1, u2, u3, u4, u5, u6, u7, u8⟩ := hBX.nine
  have hb0 : Below w.heap.size w (w.alloc (.cells #[.int .i64 bus, .int .i64 mn, .slice A n c, .int .i64 up, .int .i64 dn, .int .i64 start, .int .i64 idle, .int .i64 spin, .int .i64 on] 39)) := (Below.refl _ _).alloc (Nat.le_refl _) _
  generalize w.alloc (.cells #[.int .i64 bus, .int .i64 mn, .slice A n c, .int .i64 up, .int .i64 dn, .int .i64 start, .int .i64 idle, .int .i64 spin, .int .i64 on] 39) = W at *
  refine (T.out W hb0).mono ?_
  rintro e w1 ⟨rfl, hb1⟩
  have HBX := Lib.hid (hBX.below hb1 hBX.lt)
  obtain ⟨v0, v1, v2, v3, v4, v5, v6, v7, v8⟩ := HBX.out.nine
  have HB := Lib.hid (hb0.trans (hb1.mono hb0.size))
  clear hb1 hb0 hBX u0 u1 u2 u3 u4 u5 u6 u7 u8 T
  go_wp2_with fail
  have hS : ∀ w', Kp w1 w' → (w'.cell? ⟨w.heap.size, 0, none⟩ = some (.int .i64 bus) ∧ w'.cell? ⟨w.heap.size, 1, none⟩ = some (.int .i64 mn) ∧ w'.cell? ⟨w.heap.size, 2, none⟩ = some (.slice A n c) ∧ w'.cell? ⟨w.heap.size, 3, none⟩ = some (.int .i64 up) ∧ w'.cell? ⟨w.heap.size, 4, none⟩ = some (.int .i64 dn) ∧ w'.cell? ⟨w.heap.size, 5, none⟩ = some (.int .i64 start) ∧ w'.cell? ⟨w.heap.size, 6, none⟩ = some (.int .i64 idle) ∧ w'.cell? ⟨w.heap.size, 7, none⟩ = some (.int .i64 spin) ∧ w'.cell? ⟨w.heap.size, 8, none⟩ = some (.int .i64 on)) ∧ Kp w1 w' := fun w' hk => ⟨(hk.blk HBX.out).nine, hk⟩
  have HS := Lib.hid hS
  have hk0 := Kp.refl w1
  clear hS v0 v1 v2 v3 v4 v5 v6 v7 v8
  go_region_held3 (fun w' => (w'.cell? ⟨w.heap.size, 0, none⟩ = some (.int .i64 bus) ∧ w'.cell? ⟨w.heap.size, 1, none⟩ = some (.int .i64 mn) ∧ w'.cell? ⟨w.heap.size, 2, none⟩ = some (.slice A n c) ∧ w'.cell? ⟨w.heap.size, 3, none⟩ = some (.int .i64 up) ∧ w'.cell? ⟨w.heap.size, 4, none⟩ = some (.int .i64 dn) ∧ w'.cell? ⟨w.heap.size, 5, none⟩ = some (.int .i64 start) ∧ w'.cell? ⟨w.heap.size, 6, none⟩ = some (.int .i64 idle) ∧ w'.cell? ⟨w.heap.size, 7, none⟩ = some (.int .i64 spin) ∧ w'.cell? ⟨w.heap.size, 8, none⟩ = some (.int .i64 on)) ∧ Kp w1 w')
    (first | (with_reducible refine HS.out _ ?_; with_reducible assumption) | (with_reducible refine HS.out _ (Kp.drew ?_); with_reducible assumption) | (with_reducible refine' HS.out _ (Kp.drew (And.right ?_)); rotate_left; with_reducible assumption))
    (first
      | (go_at_call 49; have hk := And.right ‹_ ∧ Kp w1 _›; refine (TS.out _ (HB.out.trans (Below.mono hk HB.out.size))).mono ?_; rintro e w2 ⟨rfl, hb2⟩; have hk2 := Kp.trans hk hb2; clear hk hb2))
  have HB2 := Lib.hid (HB.out.trans (Below.mono hk2 HB.out.size))
  have HBX2 := Lib.hid (Kp.blk hk2 HBX.out)
  clear HB HBX HS TS hk0 hk2
  generalize start * zs = z0 at *
  go_wp2_with fail
  go_loopw [5, 19] (fun ts t wr => ∃ (k : Nat) (z : Int), k ≤ m ∧ t = .int .i64 k ∧ ts = .int .i64 z ∧ Hid (Below w.heap.size w wr ∧ Blk wr w.heap.size 39 #[.int .i64 bus, .int .i64 mn, .slice A n c, .int .i64 up, .int .i64 dn, .int .i64 start, .int .i64 idle, .int .i64 spin, .int .i64 on] ∧ uc = z + idle * uon (bs.drop k) ∧ 0 ≤ z ∧ z ≤ 1000000000000 + 1000000000 * k)) (fun _ t _ => m - (intOf t).toNat)
  case atStart => exact ⟨0, z0, Nat.zero_le _, rfl, rfl, HB2.out, HBX2.out, by rw [HU.out]; simp, hp1, by omega⟩
  case round =>
    clear HB2 HBX2
    obtain ⟨k, z, hk, rfl, rfl, hR⟩ := hrel
    by_cases hlt : k < m
    · obtain ⟨b', o', rfl, hb', hc⟩ := HBS.out.2 (by omega)
      have hcl := (hR.out.1.cell (p := ⟨b', o' + k, none⟩) hb').trans (hc k hlt)
      have hd := dropB (bs := bs) (k := k) (by rw [HBS.out.1]; exact hlt)
      obtain ⟨v0, v1, v2, v3, v4, v5, v6, v7, v8⟩ := hR.out.2.1.nine
      have hrel := hR.out.2.2.1
      rw [hd, uon, Int.mul_add] at hrel
      obtain ⟨z1, z2⟩ := hR.out.2.2.2
      generalize bs[k]?.getD false = b at *
      have HBW := Lib.hid (And.intro hR.out.1 hR.out.2.1)
      have HRL := Lib.hid hrel
      have k1 : (0 : Int) ≤ (k : Int) := by omega
      have k2 : (k : Int) < (m : Int) := by omega
      have wl2 : IntKind.i64.wrap (z + idle) = z + idle := IntWalk.i64_in _ (by omega)
      clear hc hd hrel hR
      cases b
      · go_wp2
        go_roundw
        case rel => exact ⟨k + 1, z, by omega, by go_num, rfl, HBW.out.1, HBW.out.2, by have := HRL.out; simp at this; exact this, by omega, by omega⟩
        case measure => simp [intOf]; omega
      · go_wp2
        go_roundw
        case rel => exact ⟨k + 1, z + idle, by omega, by go_num, rfl, HBW.out.1, HBW.out.2, by have := HRL.out; simp at this; omega, by omega, by omega⟩
        case measure => simp [intOf]; omega
    · obtain rfl : m = k := by omega
      have hrel := hR.out.2.2.1
      rw [List.drop_eq_nil_of_le (by rw [HBS.out.1]; exact Nat.le_refl _), uon, Int.mul_zero, Int.add_zero] at hrel
      have HF := Lib.hid hrel
      have HBW := Lib.hid hR.out.1
      clear hrel hR
      go_wp2
      go_ret
      exact ⟨by rw [HF.out]; rfl, HBW.out⟩

end Go.Proofs.YtdoeejcmaeefcaaGreat
