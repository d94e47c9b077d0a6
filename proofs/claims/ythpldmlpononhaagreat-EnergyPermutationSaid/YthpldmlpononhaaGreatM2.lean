/-
The statement EnergyUnitsOff: the walk up to its calls. No statement of the seat is proved here; no conditions beyond those of each theorem.
-/
import Derived.Test.YthpldmlpononhaaGreatL8
import Derived.Test.YthpldmlpononhaaGreatM1
import Derived.Test.YthpldmlpononhaaGreatAP
namespace Go.Proofs.YthpldmlpononhaaGreat
set_option linter.unusedVariables false
set_option linter.unusedSimpArgs false
open Go.RowKit
open Wd
open En (Pc PU)

theorem UsRaw.below {w w' : World} {A : Option Addr} {n : Nat} {us : List Un} (h : UsRaw w A n us) (hb : Below w.heap.size w w') : UsRaw w' A n us := by
  refine ⟨h.1, fun hn => ?_⟩
  obtain ⟨b, o, rfl, hlt, hc⟩ := h.2 hn
  refine ⟨b, o, rfl, Nat.lt_of_lt_of_le hlt hb.size, fun j hj => ?_⟩
  obtain ⟨A', n', c', ⟨h0, h1, h2, h3, h4, h5, h6, h7, h8⟩, hs⟩ := hc j hj
  exact ⟨A', n', c', ⟨(hb.cell hlt).trans h0, (hb.cell hlt).trans h1, (hb.cell hlt).trans h2, (hb.cell hlt).trans h3, (hb.cell hlt).trans h4, (hb.cell hlt).trans h5, (hb.cell hlt).trans h6, (hb.cell hlt).trans h7, (hb.cell hlt).trans h8⟩, hs.below hb⟩

set_option maxRecDepth 100000 in
set_option maxHeartbeats 8000000 in
theorem off_long (A B : Option Addr) (n c m d : Nat) (us : List Un) (bs : List Bool) (f : Int) (bus mn up dn start idle spin on : Int) (A' : Option Addr) (n' c' : Nat) (l : List (Int × Int)) (k : Nat) (hk : k < 256) (w : World) (h : UsRaw w A n us) (h' : BsAt w B m bs) (hs : StAt w A' n' l) (hlg : longB us m = true) : Calls Tryz.prog 15 #[.slice A n c, .slice B m d, .int .i64 f, .agg #[.int .i64 bus, .int .i64 mn, .slice A' n' c', .int .i64 up, .int .i64 dn, .int .i64 start, .int .i64 idle, .int .i64 spin, .int .i64 on], .int .u8 (k : Int)] w fun e w' => e = .returned (.bool true) ∧ Below w.heap.size w w' := by
  have T1 := fun W (hW : Below w.heap.size w W) => long28_any A B n c m d us bs W (h.below hW) h'.1
  rw [hlg] at T1
  have HL1 := Lib.hid T1
  have HAW := Lib.hid (fun W => awake28_any W)
  clear h h' hs T1 hlg
  go_enter Tryz.func15, Tryz.ntmps15
  go_wp2_with fail
  have hB0 := Blk.new w 48 #[.int .i64 bus, .int .i64 mn, .slice A' n' c', .int .i64 up, .int .i64 dn, .int .i64 start, .int .i64 idle, .int .i64 spin, .int .i64 on]
  have hBW : Below w.heap.size w (w.alloc (.cells #[.int .i64 bus, .int .i64 mn, .slice A' n' c', .int .i64 up, .int .i64 dn, .int .i64 start, .int .i64 idle, .int .i64 spin, .int .i64 on] 48)) := (Below.refl _ _).alloc (Nat.le_refl _) _
  have hsz : (w.alloc (.cells #[.int .i64 bus, .int .i64 mn, .slice A' n' c', .int .i64 up, .int .i64 dn, .int .i64 start, .int .i64 idle, .int .i64 spin, .int .i64 on] 48)).heap.size = w.heap.size + 1 := by simp
  generalize w.alloc (.cells #[.int .i64 bus, .int .i64 mn, .slice A' n' c', .int .i64 up, .int .i64 dn, .int .i64 start, .int .i64 idle, .int .i64 spin, .int .i64 on] 48) = W at *
  have HSZ := Lib.hid hsz
  clear hsz
  refine (HL1.out W hBW).mono ?_
  rintro e w1 ⟨rfl, rfl⟩
  clear HL1
  go_wp2_with fail
  refine (HAW.out _).mono ?_
  rintro e w9 ⟨rfl, hb9⟩
  have HB9 := Lib.hid (hBW.trans (hb9.mono hBW.size))
  clear hb9
  go_wp2
  go_ret
  exact ⟨rfl, HB9.out⟩

set_option maxRecDepth 100000 in
set_option maxHeartbeats 8000000 in
theorem off_long2 (A B : Option Addr) (n c m d : Nat) (us : List Un) (bs : List Bool) (f : Int) (bus mn up dn start idle spin on : Int) (A' : Option Addr) (n' c' : Nat) (l : List (Int × Int)) (k : Nat) (hk : k < 256) (w : World) (h : UsRaw w A n us) (h' : BsAt w B m bs) (hs : StAt w A' n' l) (hlg : longB us m = false) (hlg2 : longB [⟨bus, mn, l, up, dn, start, idle, spin, on⟩] 0 = true) : Calls Tryz.prog 15 #[.slice A n c, .slice B m d, .int .i64 f, .agg #[.int .i64 bus, .int .i64 mn, .slice A' n' c', .int .i64 up, .int .i64 dn, .int .i64 start, .int .i64 idle, .int .i64 spin, .int .i64 on], .int .u8 (k : Int)] w fun e w' => e = .returned (.bool true) ∧ Below w.heap.size w w' := by
  have T1 := fun W (hW : Below w.heap.size w W) => long28_any A B n c m d us bs W (h.below hW) h'.1
  rw [hlg] at T1
  have HL1 := Lib.hid T1
  have HAW := Lib.hid (fun W => awake28_any W)
  have HSS := Lib.hid hs
  clear h h' hs T1 hlg
  go_enter Tryz.func15, Tryz.ntmps15
  go_wp2_with fail
  have hB0 := Blk.new w 48 #[.int .i64 bus, .int .i64 mn, .slice A' n' c', .int .i64 up, .int .i64 dn, .int .i64 start, .int .i64 idle, .int .i64 spin, .int .i64 on]
  have hBW : Below w.heap.size w (w.alloc (.cells #[.int .i64 bus, .int .i64 mn, .slice A' n' c', .int .i64 up, .int .i64 dn, .int .i64 start, .int .i64 idle, .int .i64 spin, .int .i64 on] 48)) := (Below.refl _ _).alloc (Nat.le_refl _) _
  have hsz : (w.alloc (.cells #[.int .i64 bus, .int .i64 mn, .slice A' n' c', .int .i64 up, .int .i64 dn, .int .i64 start, .int .i64 idle, .int .i64 spin, .int .i64 on] 48)).heap.size = w.heap.size + 1 := by simp
  generalize w.alloc (.cells #[.int .i64 bus, .int .i64 mn, .slice A' n' c', .int .i64 up, .int .i64 dn, .int .i64 start, .int .i64 idle, .int .i64 spin, .int .i64 on] 48) = W at *
  have HSZ := Lib.hid hsz
  clear hsz
  refine (HL1.out W hBW).mono ?_
  rintro e w1 ⟨rfl, rfl⟩
  clear HL1
  obtain ⟨y0, y1, y2, y3, y4, y5, y6, y7, y8⟩ := hB0.nine
  have hU2 := one_us (Blk.new W 48 #[.int .i64 bus, .int .i64 mn, .slice A' n' c', .int .i64 up, .int .i64 dn, .int .i64 start, .int .i64 idle, .int .i64 spin, .int .i64 on]) ((HSS.out.below hBW).below ((Below.refl _ _).alloc (Nat.le_refl _) (.cells #[.int .i64 bus, .int .i64 mn, .slice A' n' c', .int .i64 up, .int .i64 dn, .int .i64 start, .int .i64 idle, .int .i64 spin, .int .i64 on] 48)))
  have T2 := long28_any (some ⟨W.heap.size, 0, none⟩) none 1 1 0 0 [⟨bus, mn, l, up, dn, start, idle, spin, on⟩] [] _ hU2 rfl
  rw [hlg2] at T2
  clear hlg2
  have HT2 := Lib.hid T2
  have hB1 := hB0.alloc (.cells #[.int .i64 bus, .int .i64 mn, .slice A' n' c', .int .i64 up, .int .i64 dn, .int .i64 start, .int .i64 idle, .int .i64 spin, .int .i64 on] 48)
  have hBV := hBW.trans (((Below.refl W.heap.size W).alloc (Nat.le_refl _) (.cells #[.int .i64 bus, .int .i64 mn, .slice A' n' c', .int .i64 up, .int .i64 dn, .int .i64 start, .int .i64 idle, .int .i64 spin, .int .i64 on] 48)).mono hBW.size)
  clear T2 hU2 hB0
  go_wp2_with fail
  refine HT2.out.mono ?_
  rintro e w1 ⟨rfl, rfl⟩
  clear HT2 y0 y1 y2 y3 y4 y5 y6 y7 y8
  have hBV := Lib.hid hBV
  generalize W.alloc (.cells #[.int .i64 bus, .int .i64 mn, .slice A' n' c', .int .i64 up, .int .i64 dn, .int .i64 start, .int .i64 idle, .int .i64 spin, .int .i64 on] 48) = V at *
  clear hBW HSZ
  obtain ⟨y0, y1, y2, y3, y4, y5, y6, y7, y8⟩ := hB1.nine
  go_wp2_with fail
  refine (HAW.out _).mono ?_
  rintro e w9 ⟨rfl, hb9⟩
  have HB9 := Lib.hid (hBV.out.trans (hb9.mono hBV.out.size))
  clear hb9
  go_wp2
  go_ret
  exact ⟨rfl, HB9.out⟩

set_option maxRecDepth 100000 in
set_option maxHeartbeats 8000000 in
theorem off_many (A B : Option Addr) (n c m d : Nat) (us : List Un) (bs : List Bool) (f : Int) (bus mn up dn start idle spin on : Int) (A' : Option Addr) (n' c' : Nat) (l : List (Int × Int)) (k : Nat) (hk : k < 256) (w : World) (h : UsRaw w A n us) (h' : BsAt w B m bs) (hs : StAt w A' n' l) (hlg : longB us m = false) (hlg2 : longB [⟨bus, mn, l, up, dn, start, idle, spin, on⟩] 0 = false) (h5 : 5 ≤ n) : Calls Tryz.prog 15 #[.slice A n c, .slice B m d, .int .i64 f, .agg #[.int .i64 bus, .int .i64 mn, .slice A' n' c', .int .i64 up, .int .i64 dn, .int .i64 start, .int .i64 idle, .int .i64 spin, .int .i64 on], .int .u8 (k : Int)] w fun e w' => e = .returned (.bool true) ∧ Below w.heap.size w w' := by
  have T1 := fun W (hW : Below w.heap.size w W) => long28_any A B n c m d us bs W (h.below hW) h'.1
  rw [hlg] at T1
  have HL1 := Lib.hid T1
  have HAW := Lib.hid (fun W => awake28_any W)
  have HSS := Lib.hid hs
  obtain ⟨hU, hn30, hm30⟩ := h.at hlg
  have hn20 : n' ≤ 20 := by
    unfold longB at hlg2
    simp [longL] at hlg2
    have := hs.1
    omega
  have HCK := Lib.hid (fun W (hW : Below w.heap.size w W) => ucheck_raw bus mn up dn start idle spin on A' n' c' l W (hs.below hW) (by omega))
  have HEC := Lib.hid (fun W (hW : Below w.heap.size w W) => echeck_any A B n c m d us bs W (hU.below hW) (h'.below hW) (by omega) (by omega))
  have d5 : decide ((5 : Int) ≤ (n : Int)) = true := by simp; omega
  clear h h' hs T1 hlg hU HCK HEC
  go_enter Tryz.func15, Tryz.ntmps15
  go_wp2_with fail
  have hB0 := Blk.new w 48 #[.int .i64 bus, .int .i64 mn, .slice A' n' c', .int .i64 up, .int .i64 dn, .int .i64 start, .int .i64 idle, .int .i64 spin, .int .i64 on]
  have hBW : Below w.heap.size w (w.alloc (.cells #[.int .i64 bus, .int .i64 mn, .slice A' n' c', .int .i64 up, .int .i64 dn, .int .i64 start, .int .i64 idle, .int .i64 spin, .int .i64 on] 48)) := (Below.refl _ _).alloc (Nat.le_refl _) _
  have hsz : (w.alloc (.cells #[.int .i64 bus, .int .i64 mn, .slice A' n' c', .int .i64 up, .int .i64 dn, .int .i64 start, .int .i64 idle, .int .i64 spin, .int .i64 on] 48)).heap.size = w.heap.size + 1 := by simp
  generalize w.alloc (.cells #[.int .i64 bus, .int .i64 mn, .slice A' n' c', .int .i64 up, .int .i64 dn, .int .i64 start, .int .i64 idle, .int .i64 spin, .int .i64 on] 48) = W at *
  have HSZ := Lib.hid hsz
  clear hsz
  refine (HL1.out W hBW).mono ?_
  rintro e w1 ⟨rfl, rfl⟩
  clear HL1
  obtain ⟨y0, y1, y2, y3, y4, y5, y6, y7, y8⟩ := hB0.nine
  have hU2 := one_us (Blk.new W 48 #[.int .i64 bus, .int .i64 mn, .slice A' n' c', .int .i64 up, .int .i64 dn, .int .i64 start, .int .i64 idle, .int .i64 spin, .int .i64 on]) ((HSS.out.below hBW).below ((Below.refl _ _).alloc (Nat.le_refl _) (.cells #[.int .i64 bus, .int .i64 mn, .slice A' n' c', .int .i64 up, .int .i64 dn, .int .i64 start, .int .i64 idle, .int .i64 spin, .int .i64 on] 48)))
  have T2 := long28_any (some ⟨W.heap.size, 0, none⟩) none 1 1 0 0 [⟨bus, mn, l, up, dn, start, idle, spin, on⟩] [] _ hU2 rfl
  rw [hlg2] at T2
  clear hlg2
  have HT2 := Lib.hid T2
  have hB1 := hB0.alloc (.cells #[.int .i64 bus, .int .i64 mn, .slice A' n' c', .int .i64 up, .int .i64 dn, .int .i64 start, .int .i64 idle, .int .i64 spin, .int .i64 on] 48)
  have hBV := hBW.trans (((Below.refl W.heap.size W).alloc (Nat.le_refl _) (.cells #[.int .i64 bus, .int .i64 mn, .slice A' n' c', .int .i64 up, .int .i64 dn, .int .i64 start, .int .i64 idle, .int .i64 spin, .int .i64 on] 48)).mono hBW.size)
  clear T2 hU2 hB0
  go_wp2_with fail
  refine HT2.out.mono ?_
  rintro e w1 ⟨rfl, rfl⟩
  clear HT2 y0 y1 y2 y3 y4 y5 y6 y7 y8
  have hBV := Lib.hid hBV
  generalize W.alloc (.cells #[.int .i64 bus, .int .i64 mn, .slice A' n' c', .int .i64 up, .int .i64 dn, .int .i64 start, .int .i64 idle, .int .i64 spin, .int .i64 on] 48) = V at *
  clear hBW HSZ
  obtain ⟨y0, y1, y2, y3, y4, y5, y6, y7, y8⟩ := hB1.nine
  go_wp2_with fail
  refine (HAW.out _).mono ?_
  rintro e w9 ⟨rfl, hb9⟩
  have HB9 := Lib.hid (hBV.out.trans (hb9.mono hBV.out.size))
  clear hb9
  go_wp2
  go_ret
  exact ⟨rfl, HB9.out⟩

set_option maxRecDepth 100000 in
set_option maxHeartbeats 8000000 in
theorem off_unit (A B : Option Addr) (n c m d : Nat) (us : List Un) (bs : List Bool) (f : Int) (bus mn up dn start idle spin on : Int) (A' : Option Addr) (n' c' : Nat) (l : List (Int × Int)) (k : Nat) (hk : k < 256) (w : World) (h : UsRaw w A n us) (h' : BsAt w B m bs) (hs : StAt w A' n' l) (hlg : longB us m = false) (hlg2 : longB [⟨bus, mn, l, up, dn, start, idle, spin, on⟩] 0 = false) (h5 : n < 5) (hc : uchk ⟨bus, mn, l, up, dn, start, idle, spin, on⟩ ≠ 0) : Calls Tryz.prog 15 #[.slice A n c, .slice B m d, .int .i64 f, .agg #[.int .i64 bus, .int .i64 mn, .slice A' n' c', .int .i64 up, .int .i64 dn, .int .i64 start, .int .i64 idle, .int .i64 spin, .int .i64 on], .int .u8 (k : Int)] w fun e w' => e = .returned (.bool true) ∧ Below w.heap.size w w' := by
  have T1 := fun W (hW : Below w.heap.size w W) => long28_any A B n c m d us bs W (h.below hW) h'.1
  rw [hlg] at T1
  have HL1 := Lib.hid T1
  have HAW := Lib.hid (fun W => awake28_any W)
  have HSS := Lib.hid hs
  obtain ⟨hU, hn30, hm30⟩ := h.at hlg
  have hn20 : n' ≤ 20 := by
    unfold longB at hlg2
    simp [longL] at hlg2
    have := hs.1
    omega
  have HCK := Lib.hid (fun W (hW : Below w.heap.size w W) => ucheck_raw bus mn up dn start idle spin on A' n' c' l W (hs.below hW) (by omega))
  have HEC := Lib.hid (fun W (hW : Below w.heap.size w W) => echeck_any A B n c m d us bs W (hU.below hW) (h'.below hW) (by omega) (by omega))
  have d5 : decide ((5 : Int) ≤ (n : Int)) = false := by simp; omega
  generalize uchk ⟨bus, mn, l, up, dn, start, idle, spin, on⟩ = x at *
  have dx : (x != 0) = true := by simpa using hc
  clear h h' hs T1 hlg hU HEC hc
  go_enter Tryz.func15, Tryz.ntmps15
  go_wp2_with fail
  have hB0 := Blk.new w 48 #[.int .i64 bus, .int .i64 mn, .slice A' n' c', .int .i64 up, .int .i64 dn, .int .i64 start, .int .i64 idle, .int .i64 spin, .int .i64 on]
  have hBW : Below w.heap.size w (w.alloc (.cells #[.int .i64 bus, .int .i64 mn, .slice A' n' c', .int .i64 up, .int .i64 dn, .int .i64 start, .int .i64 idle, .int .i64 spin, .int .i64 on] 48)) := (Below.refl _ _).alloc (Nat.le_refl _) _
  have hsz : (w.alloc (.cells #[.int .i64 bus, .int .i64 mn, .slice A' n' c', .int .i64 up, .int .i64 dn, .int .i64 start, .int .i64 idle, .int .i64 spin, .int .i64 on] 48)).heap.size = w.heap.size + 1 := by simp
  generalize w.alloc (.cells #[.int .i64 bus, .int .i64 mn, .slice A' n' c', .int .i64 up, .int .i64 dn, .int .i64 start, .int .i64 idle, .int .i64 spin, .int .i64 on] 48) = W at *
  have HSZ := Lib.hid hsz
  clear hsz
  refine (HL1.out W hBW).mono ?_
  rintro e w1 ⟨rfl, rfl⟩
  clear HL1
  obtain ⟨y0, y1, y2, y3, y4, y5, y6, y7, y8⟩ := hB0.nine
  have hU2 := one_us (Blk.new W 48 #[.int .i64 bus, .int .i64 mn, .slice A' n' c', .int .i64 up, .int .i64 dn, .int .i64 start, .int .i64 idle, .int .i64 spin, .int .i64 on]) ((HSS.out.below hBW).below ((Below.refl _ _).alloc (Nat.le_refl _) (.cells #[.int .i64 bus, .int .i64 mn, .slice A' n' c', .int .i64 up, .int .i64 dn, .int .i64 start, .int .i64 idle, .int .i64 spin, .int .i64 on] 48)))
  have T2 := long28_any (some ⟨W.heap.size, 0, none⟩) none 1 1 0 0 [⟨bus, mn, l, up, dn, start, idle, spin, on⟩] [] _ hU2 rfl
  rw [hlg2] at T2
  clear hlg2
  have HT2 := Lib.hid T2
  have hB1 := hB0.alloc (.cells #[.int .i64 bus, .int .i64 mn, .slice A' n' c', .int .i64 up, .int .i64 dn, .int .i64 start, .int .i64 idle, .int .i64 spin, .int .i64 on] 48)
  have hBV := hBW.trans (((Below.refl W.heap.size W).alloc (Nat.le_refl _) (.cells #[.int .i64 bus, .int .i64 mn, .slice A' n' c', .int .i64 up, .int .i64 dn, .int .i64 start, .int .i64 idle, .int .i64 spin, .int .i64 on] 48)).mono hBW.size)
  clear T2 hU2 hB0
  go_wp2_with fail
  refine HT2.out.mono ?_
  rintro e w1 ⟨rfl, rfl⟩
  clear HT2 y0 y1 y2 y3 y4 y5 y6 y7 y8
  have hBV := Lib.hid hBV
  generalize W.alloc (.cells #[.int .i64 bus, .int .i64 mn, .slice A' n' c', .int .i64 up, .int .i64 dn, .int .i64 start, .int .i64 idle, .int .i64 spin, .int .i64 on] 48) = V at *
  clear hBW HSZ
  obtain ⟨y0, y1, y2, y3, y4, y5, y6, y7, y8⟩ := hB1.nine
  go_wp2_with fail
  refine (HCK.out V hBV.out).mono ?_
  rintro e v1 ⟨rfl, hb1⟩
  have HB1 := Lib.hid (hBV.out.trans (hb1.mono hBV.out.size))
  have hB2 := hB1.below hb1 hB1.lt
  clear hb1 HCK y0 y1 y2 y3 y4 y5 y6 y7 y8 hB1
  go_wp2_with fail
  refine (HAW.out _).mono ?_
  rintro e w9 ⟨rfl, hb9⟩
  have HB9 := Lib.hid (HB1.out.trans (hb9.mono HB1.out.size))
  clear hb9
  go_wp2
  go_ret
  exact ⟨rfl, HB9.out⟩

set_option maxRecDepth 100000 in
set_option maxHeartbeats 8000000 in
theorem off_check (A B : Option Addr) (n c m d : Nat) (us : List Un) (bs : List Bool) (f : Int) (bus mn up dn start idle spin on : Int) (A' : Option Addr) (n' c' : Nat) (l : List (Int × Int)) (k : Nat) (hk : k < 256) (w : World) (h : UsRaw w A n us) (h' : BsAt w B m bs) (hs : StAt w A' n' l) (hlg : longB us m = false) (hlg2 : longB [⟨bus, mn, l, up, dn, start, idle, spin, on⟩] 0 = false) (h5 : n < 5) (hc : uchk ⟨bus, mn, l, up, dn, start, idle, spin, on⟩ = 0) (he : echk us m ≠ 0) : Calls Tryz.prog 15 #[.slice A n c, .slice B m d, .int .i64 f, .agg #[.int .i64 bus, .int .i64 mn, .slice A' n' c', .int .i64 up, .int .i64 dn, .int .i64 start, .int .i64 idle, .int .i64 spin, .int .i64 on], .int .u8 (k : Int)] w fun e w' => e = .returned (.bool true) ∧ Below w.heap.size w w' := by
  have T1 := fun W (hW : Below w.heap.size w W) => long28_any A B n c m d us bs W (h.below hW) h'.1
  rw [hlg] at T1
  have HL1 := Lib.hid T1
  have HAW := Lib.hid (fun W => awake28_any W)
  have HSS := Lib.hid hs
  obtain ⟨hU, hn30, hm30⟩ := h.at hlg
  have hn20 : n' ≤ 20 := by
    unfold longB at hlg2
    simp [longL] at hlg2
    have := hs.1
    omega
  have HCK := Lib.hid (fun W (hW : Below w.heap.size w W) => ucheck_raw bus mn up dn start idle spin on A' n' c' l W (hs.below hW) (by omega))
  have HEC := Lib.hid (fun W (hW : Below w.heap.size w W) => echeck_any A B n c m d us bs W (hU.below hW) (h'.below hW) (by omega) (by omega))
  have d5 : decide ((5 : Int) ≤ (n : Int)) = false := by simp; omega
  rw [hc] at HCK
  generalize echk us m = x at *
  have dx : (x != 0) = true := by simpa using he
  clear h h' hs T1 hlg hU hc he
  go_enter Tryz.func15, Tryz.ntmps15
  go_wp2_with fail
  have hB0 := Blk.new w 48 #[.int .i64 bus, .int .i64 mn, .slice A' n' c', .int .i64 up, .int .i64 dn, .int .i64 start, .int .i64 idle, .int .i64 spin, .int .i64 on]
  have hBW : Below w.heap.size w (w.alloc (.cells #[.int .i64 bus, .int .i64 mn, .slice A' n' c', .int .i64 up, .int .i64 dn, .int .i64 start, .int .i64 idle, .int .i64 spin, .int .i64 on] 48)) := (Below.refl _ _).alloc (Nat.le_refl _) _
  have hsz : (w.alloc (.cells #[.int .i64 bus, .int .i64 mn, .slice A' n' c', .int .i64 up, .int .i64 dn, .int .i64 start, .int .i64 idle, .int .i64 spin, .int .i64 on] 48)).heap.size = w.heap.size + 1 := by simp
  generalize w.alloc (.cells #[.int .i64 bus, .int .i64 mn, .slice A' n' c', .int .i64 up, .int .i64 dn, .int .i64 start, .int .i64 idle, .int .i64 spin, .int .i64 on] 48) = W at *
  have HSZ := Lib.hid hsz
  clear hsz
  refine (HL1.out W hBW).mono ?_
  rintro e w1 ⟨rfl, rfl⟩
  clear HL1
  obtain ⟨y0, y1, y2, y3, y4, y5, y6, y7, y8⟩ := hB0.nine
  have hU2 := one_us (Blk.new W 48 #[.int .i64 bus, .int .i64 mn, .slice A' n' c', .int .i64 up, .int .i64 dn, .int .i64 start, .int .i64 idle, .int .i64 spin, .int .i64 on]) ((HSS.out.below hBW).below ((Below.refl _ _).alloc (Nat.le_refl _) (.cells #[.int .i64 bus, .int .i64 mn, .slice A' n' c', .int .i64 up, .int .i64 dn, .int .i64 start, .int .i64 idle, .int .i64 spin, .int .i64 on] 48)))
  have T2 := long28_any (some ⟨W.heap.size, 0, none⟩) none 1 1 0 0 [⟨bus, mn, l, up, dn, start, idle, spin, on⟩] [] _ hU2 rfl
  rw [hlg2] at T2
  clear hlg2
  have HT2 := Lib.hid T2
  have hB1 := hB0.alloc (.cells #[.int .i64 bus, .int .i64 mn, .slice A' n' c', .int .i64 up, .int .i64 dn, .int .i64 start, .int .i64 idle, .int .i64 spin, .int .i64 on] 48)
  have hBV := hBW.trans (((Below.refl W.heap.size W).alloc (Nat.le_refl _) (.cells #[.int .i64 bus, .int .i64 mn, .slice A' n' c', .int .i64 up, .int .i64 dn, .int .i64 start, .int .i64 idle, .int .i64 spin, .int .i64 on] 48)).mono hBW.size)
  clear T2 hU2 hB0
  go_wp2_with fail
  refine HT2.out.mono ?_
  rintro e w1 ⟨rfl, rfl⟩
  clear HT2 y0 y1 y2 y3 y4 y5 y6 y7 y8
  have hBV := Lib.hid hBV
  generalize W.alloc (.cells #[.int .i64 bus, .int .i64 mn, .slice A' n' c', .int .i64 up, .int .i64 dn, .int .i64 start, .int .i64 idle, .int .i64 spin, .int .i64 on] 48) = V at *
  clear hBW HSZ
  obtain ⟨y0, y1, y2, y3, y4, y5, y6, y7, y8⟩ := hB1.nine
  go_wp2_with fail
  refine (HCK.out V hBV.out).mono ?_
  rintro e v1 ⟨rfl, hb1⟩
  have HB1 := Lib.hid (hBV.out.trans (hb1.mono hBV.out.size))
  have hB2 := hB1.below hb1 hB1.lt
  clear hb1 HCK y0 y1 y2 y3 y4 y5 y6 y7 y8 hB1
  go_wp2_with fail
  refine (HEC.out v1 HB1.out).mono ?_
  rintro e v2 ⟨rfl, hb2⟩
  have HB2 := Lib.hid (HB1.out.trans (hb2.mono HB1.out.size))
  clear hb2
  go_wp2_with fail
  refine (HAW.out _).mono ?_
  rintro e w9 ⟨rfl, hb9⟩
  have HB9 := Lib.hid (HB2.out.trans (hb9.mono HB2.out.size))
  clear hb9
  go_wp2
  go_ret
  exact ⟨rfl, HB9.out⟩

end Go.Proofs.YthpldmlpononhaaGreat
