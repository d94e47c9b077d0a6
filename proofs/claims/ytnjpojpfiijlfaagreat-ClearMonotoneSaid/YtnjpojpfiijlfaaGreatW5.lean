/-
Contracts of Int64 of package whole, and of the carrier closures. No statement of the seat is proved here; no conditions beyond those of each theorem.
-/
import Derived.Test.YtnjpojpfiijlfaaGreatW4
namespace Go.Proofs.YtnjpojpfiijlfaaGreat
set_option linter.unusedVariables false
set_option linter.unusedSimpArgs false
open Go.RowKit
open Wd

def Fits (z : Int) : Prop := -9223372036854775808 ≤ z ∧ z ≤ 9223372036854775807

theorem len_le_two {m : Nat} (h : m < 18446744073709551616) : (digs m).length ≤ 2 := digs_len_le.2 (by rw [pow2]; exact h)
theorem two_lt_len {m : Nat} (h : 18446744073709551616 ≤ m) : 2 < (digs m).length := digs_len_lt.2 (by rw [pow2]; exact h)
theorem wrap_negu (m : Nat) (h : m ≤ 9223372036854775808) : IntKind.i64.wrap (IntKind.u64.wrap (-(m : Int))) = -(m : Int) := by
  rw [IntKind.wrap_u64, IntKind.wrap_i64]; omega
theorem wrap_posu (m : Nat) (h : m < 9223372036854775808) : IntKind.i64.wrap (m : Int) = (m : Int) := by
  rw [IntKind.wrap_i64]; omega

set_option maxHeartbeats 1000000 in
theorem int64_yes (neg : Bool) (A : Option Addr) (n c : Nat) (l : List Nat) (w : World) (h : Wat w A n l) (hnc : n ≤ c) (hm : n ≤ 1000000000000) (hz : Fits (sg neg (val l))) :
    Calls Tryz.prog 158 #[.agg #[.bool neg, .slice A n c]] w fun e w' => e = .returned (.tuple #[.int .i64 (sg neg (val l)), .bool true]) ∧ Below w.heap.size w w' := by
  obtain ⟨hz1, hz2⟩ := hz
  have ht := h.trim
  have hle := h.trim_le
  have T1 := Lib.hid (fun o => trim_any A n c l (w.alloc o) (h.alloc o) hnc (by omega))
  generalize hv : val l = m at *
  have hm2 : m < 18446744073709551616 := by unfold sg at hz1 hz2; cases neg <;> simp at hz1 hz2 <;> omega
  have h2 := len_le_two hm2
  have T2 := Lib.hid (fun o => low_any A _ c _ (w.alloc o) (ht.alloc o) h2)
  rw [val_digs] at T2
  generalize (digs m).length = k at *
  have HV := Lib.hid hv
  clear hv ht
  cases neg
  · have hms : m < 9223372036854775808 := by unfold sg at hz2; simp at hz2; omega
    have e : sg false m = (m : Int) := rfl
    rw [e]
    have hd : decide ((9223372036854775808 : Int) ≤ (m : Int)) = false := by simp; omega
    have HMS := Lib.hid hms
    clear hz1 hz2 e hm2 hms
    go_enter Tryz.func158, Tryz.ntmps158
    go_wp2_with fail
    refine (T1.out _).mono ?_
    rintro e w' ⟨rfl, rfl⟩
    go_wp2_with fail
    refine (T2.out _).mono ?_
    rintro e w' ⟨rfl, q, rfl⟩
    go_wp2
    go_ret2
    refine ⟨?_, below_drewN ((Below.refl _ _).alloc (Nat.le_refl _) _) _⟩
    have e : wrap64 (m : Int) = (m : Int) := by have := HMS.out; unfold wrap64; omega
    simp [e]
  · have hms : m ≤ 9223372036854775808 := by unfold sg at hz1; simp at hz1; omega
    have e : sg true m = -(m : Int) := rfl
    rw [e]
    have hd : decide ((9223372036854775808 : Int) < (m : Int)) = false := by simp; omega
    have HMS := Lib.hid hms
    clear hz1 hz2 e hm2 hms
    go_enter Tryz.func158, Tryz.ntmps158
    go_wp2_with fail
    refine (T1.out _).mono ?_
    rintro e w' ⟨rfl, rfl⟩
    go_wp2_with fail
    refine (T2.out _).mono ?_
    rintro e w' ⟨rfl, q, rfl⟩
    go_wp2
    go_ret2
    refine ⟨?_, below_drewN ((Below.refl _ _).alloc (Nat.le_refl _) _) _⟩
    have e : wrap64 (IntKind.u64.wrap (-(m : Int))) = -(m : Int) := by
      have := HMS.out; rw [IntKind.wrap_u64]; unfold wrap64; omega
    simp [e]

set_option maxHeartbeats 1000000 in
theorem int64_no (neg : Bool) (A : Option Addr) (n c : Nat) (l : List Nat) (w : World) (h : Wat w A n l) (hnc : n ≤ c) (hm : n ≤ 1000000000000) (hz : ¬ Fits (sg neg (val l))) :
    Calls Tryz.prog 158 #[.agg #[.bool neg, .slice A n c]] w fun e w' => e = .returned (.tuple #[.int .i64 0, .bool false]) ∧ Below w.heap.size w w' := by
  have ht := h.trim
  have hle := h.trim_le
  have T1 := Lib.hid (fun o => trim_any A n c l (w.alloc o) (h.alloc o) hnc (by omega))
  generalize hv : val l = m at *
  by_cases hbig : 18446744073709551616 ≤ m
  · have h2 := two_lt_len hbig
    generalize (digs m).length = k at *
    clear hv ht hz hbig
    go_enter Tryz.func158, Tryz.ntmps158
    go_wp2_with fail
    refine (T1.out _).mono ?_
    rintro e w' ⟨rfl, rfl⟩
    go_wp2
    go_ret2
    exact ⟨rfl, (Below.refl _ _).alloc (Nat.le_refl _) _⟩
  · have h2 := len_le_two (m := m) (by omega)
    have T2 := Lib.hid (fun o => low_any A _ c _ (w.alloc o) (ht.alloc o) h2)
    rw [val_digs] at T2
    generalize (digs m).length = k at *
    cases neg
    · have hd : decide ((9223372036854775808 : Int) ≤ (m : Int)) = true := by unfold Fits sg at hz; simp at hz ⊢; omega
      clear hv ht hz hbig
      go_enter Tryz.func158, Tryz.ntmps158
      go_wp2_with fail
      refine (T1.out _).mono ?_
      rintro e w' ⟨rfl, rfl⟩
      go_wp2_with fail
      refine (T2.out _).mono ?_
      rintro e w' ⟨rfl, q, rfl⟩
      go_wp2
      go_ret2
      exact ⟨rfl, below_drewN ((Below.refl _ _).alloc (Nat.le_refl _) _) _⟩
    · have hd : decide ((9223372036854775808 : Int) < (m : Int)) = true := by unfold Fits sg at hz; simp at hz ⊢; omega
      clear hv ht hz hbig
      go_enter Tryz.func158, Tryz.ntmps158
      go_wp2_with fail
      refine (T1.out _).mono ?_
      rintro e w' ⟨rfl, rfl⟩
      go_wp2_with fail
      refine (T2.out _).mono ?_
      rintro e w' ⟨rfl, q, rfl⟩
      go_wp2
      go_ret2
      exact ⟨rfl, below_drewN ((Below.refl _ _).alloc (Nat.le_refl _) _) _⟩

/-- 'carrier(c)': a closure over a new cell that holds c. -/
theorem carrier_any (c : Int) (w : World) :
    Calls Tryz.prog 202 #[.int .u64 c] w fun e w' => e = .returned (.func (.func 227) #[] #[.pointer (some ⟨w.heap.size, 0, none⟩)]) ∧ w.alloc (.cells #[.int .u64 c] 178) = w' := by
  have hmf : ∀ (fn : Fn) (first cap : Array Value) (w : World), (Instr.makeFunc fn first cap).run Tryz.prog w = .ok (.func fn first cap) w := fun _ _ _ _ => rfl
  go_enter Tryz.func202, Tryz.ntmps202
  go_wp2
  go_ret
  exact ⟨rfl, rfl⟩

/-- One step of the carry: the word of x + c, the rest stays as the next carry. -/
theorem next_any (g : Nat) (x c : Int) (w : World) (hg : Blk w g 178 #[.int .u64 c]) (hx0 : 0 ≤ x) (hc0 : 0 ≤ c) (hx : x + c < 18446744073709551616) :
    Calls Tryz.prog 227 #[.int .u64 x, .pointer (some ⟨g, 0, none⟩)] w fun e w' => e = .returned (.int .u32 ((x + c) % 4294967296)) ∧ w.setCell ⟨g, 0, none⟩ (.int .u64 ((x + c) / 4294967296)) = w' := by
  obtain ⟨c0, f0⟩ := hg.one
  have hs : IntKind.u64.wrap (x + c) = x + c := by rw [IntKind.wrap_u64]; omega
  have HX := Lib.hid hx
  clear hx
  go_enter Tryz.func227, Tryz.ntmps227
  go_wp2
  go_ret
  exact ⟨rfl, rfl⟩

end Go.Proofs.YtnjpojpfiijlfaaGreat
