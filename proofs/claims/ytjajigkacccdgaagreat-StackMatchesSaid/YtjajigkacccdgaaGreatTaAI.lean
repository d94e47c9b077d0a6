/-
Contracts of Int64 of package whole, and of the carrier closures. Plain facts on the schoolbook product of two lists of words. No program occurs here; no conditions. No statement of the seat is proved here; no conditions beyond those of each theorem.
-/
import Derived.Test.YtjajigkacccdgaaGreatTaAE
import Derived.Test.YtjajigkacccdgaaGreatTaAA
namespace Go.Proofs.YtjajigkacccdgaaGreat
set_option linter.unusedVariables false
set_option linter.unusedSimpArgs false
open Go.RowKit
open Wd

def Fits (z : Int) : Prop := -9223372036854775808 ≤ z ∧ z ≤ 9223372036854775807

theorem len_le_two {m : Nat} (h : m < 18446744073709551616) : (digs m).length ≤ 2 := digs_len_le.2 (by rw [pow2]; exact h)
theorem two_lt_len {m : Nat} (h : 18446744073709551616 ≤ m) : 2 < (digs m).length := digs_len_lt.2 (by rw [pow2]; exact h)


set_option maxHeartbeats 1000000 in
theorem int64_yes (neg : Bool) (A : Option Addr) (n c : Nat) (l : List Nat) (w : World) (h : Wat w A n l) (hnc : n ≤ c) (hm : n ≤ 1000000000000) (hz : Fits (sg neg (val l))) :
  Calls Tryz.prog 138 #[.agg #[.bool neg, .slice A n c]] w fun e w' => e = .returned (.tuple #[.int .i64 (sg neg (val l)), .bool true]) ∧ Below w.heap.size w w' := by
 obtain ⟨hz1, hz2⟩ := hz
 have ht := h.trim
 have hle := h.trim_le
 have T1 := Lib.hid (fun o => trim_any A n c l (w.alloc o) (h.alloc o) hnc (by omega))
 generalize hv : val l = m at *
 have hm2 : m < 18446744073709551616 := by unfold sg at hz1 hz2; cases neg <;> simp at hz1 hz2 <;> omega
 have h2 := len_le_two hm2
 have T2 := Lib.hid (fun o => low_any A _ c _ (w.alloc o) (ht.alloc o) h2)
 rw [val_digs] at T2
 generalize (digs m).length = k at *
 have HV := Lib.hid hv
 clear hv ht
 cases neg
 ·have hms : m < 9223372036854775808 := by unfold sg at hz2; simp at hz2; omega
  have e : sg false m = (m : Int) := rfl
  rw [e]
  have hd : decide ((9223372036854775808 : Int) ≤ (m : Int)) = false := by simp; omega
  have HMS := Lib.hid hms
  clear hz1 hz2 e hm2 hms
  go_enter Tryz.func138, Tryz.ntmps138
  go_wp2_with fail
  refine (T1.out _).mono ?_
  rintro e w' ⟨rfl, rfl⟩
  go_wp2_with fail
  refine (T2.out _).mono ?_
  rintro e w' ⟨rfl, q, rfl⟩
  go_wp2
  go_ret2
  refine ⟨?_, below_drewN ((Below.refl _ _).alloc (Nat.le_refl _) _) _⟩
  have e : wrap64 (m : Int) = (m : Int) := by have := HMS.out; unfold wrap64; omega
  simp [e]
 ·have hms : m ≤ 9223372036854775808 := by unfold sg at hz1; simp at hz1; omega
  have e : sg true m = -(m : Int) := rfl
  rw [e]
  have hd : decide ((9223372036854775808 : Int) < (m : Int)) = false := by simp; omega
  have HMS := Lib.hid hms
  clear hz1 hz2 e hm2 hms
  go_enter Tryz.func138, Tryz.ntmps138
  go_wp2_with fail
  refine (T1.out _).mono ?_
  rintro e w' ⟨rfl, rfl⟩
  go_wp2_with fail
  refine (T2.out _).mono ?_
  rintro e w' ⟨rfl, q, rfl⟩
  go_wp2
  go_ret2
  refine ⟨?_, below_drewN ((Below.refl _ _).alloc (Nat.le_refl _) _) _⟩
  have e : wrap64 (IntKind.u64.wrap (-(m : Int))) = -(m : Int) := by
   have := HMS.out; rw [IntKind.wrap_u64]; unfold wrap64; omega
  simp [e]

set_option maxHeartbeats 1000000 in
theorem int64_no (neg : Bool) (A : Option Addr) (n c : Nat) (l : List Nat) (w : World) (h : Wat w A n l) (hnc : n ≤ c) (hm : n ≤ 1000000000000) (hz : ¬ Fits (sg neg (val l))) :
  Calls Tryz.prog 138 #[.agg #[.bool neg, .slice A n c]] w fun e w' => e = .returned (.tuple #[.int .i64 0, .bool false]) ∧ Below w.heap.size w w' := by
 have ht := h.trim
 have hle := h.trim_le
 have T1 := Lib.hid (fun o => trim_any A n c l (w.alloc o) (h.alloc o) hnc (by omega))
 generalize hv : val l = m at *
 by_cases hbig : 18446744073709551616 ≤ m
 ·have h2 := two_lt_len hbig
  generalize (digs m).length = k at *
  clear hv ht hz hbig
  go_enter Tryz.func138, Tryz.ntmps138
  go_wp2_with fail
  refine (T1.out _).mono ?_
  rintro e w' ⟨rfl, rfl⟩
  go_wp2
  go_ret2
  exact ⟨rfl, (Below.refl _ _).alloc (Nat.le_refl _) _⟩
 ·have h2 := len_le_two (m := m) (by omega)
  have T2 := Lib.hid (fun o => low_any A _ c _ (w.alloc o) (ht.alloc o) h2)
  rw [val_digs] at T2
  generalize (digs m).length = k at *
  cases neg
  ·have hd : decide ((9223372036854775808 : Int) ≤ (m : Int)) = true := by unfold Fits sg at hz; simp at hz ⊢; omega
   clear hv ht hz hbig
   go_enter Tryz.func138, Tryz.ntmps138
   go_wp2_with fail
   refine (T1.out _).mono ?_
   rintro e w' ⟨rfl, rfl⟩
   go_wp2_with fail
   refine (T2.out _).mono ?_
   rintro e w' ⟨rfl, q, rfl⟩
   go_wp2
   go_ret2
   exact ⟨rfl, below_drewN ((Below.refl _ _).alloc (Nat.le_refl _) _) _⟩
  ·have hd : decide ((9223372036854775808 : Int) < (m : Int)) = true := by unfold Fits sg at hz; simp at hz ⊢; omega
   clear hv ht hz hbig
   go_enter Tryz.func138, Tryz.ntmps138
   go_wp2_with fail
   refine (T1.out _).mono ?_
   rintro e w' ⟨rfl, rfl⟩
   go_wp2_with fail
   refine (T2.out _).mono ?_
   rintro e w' ⟨rfl, q, rfl⟩
   go_wp2
   go_ret2
   exact ⟨rfl, below_drewN ((Below.refl _ _).alloc (Nat.le_refl _) _) _⟩

/-- 'carrier(c)': a closure over a new cell that holds c. -/
theorem carrier_any (c : Int) (w : World) :
  Calls Tryz.prog 196 #[.int .u64 c] w fun e w' => e = .returned (.func (.func 217) #[] #[.pointer (some ⟨w.heap.size, 0, none⟩)]) ∧ w.alloc (.cells #[.int .u64 c] 164) = w' := by
 have hmf : ∀ (fn : Fn) (first cap : Array Value) (w : World), (Instr.makeFunc fn first cap).run Tryz.prog w = .ok (.func fn first cap) w := fun _ _ _ _ => rfl
 go_enter Tryz.func196, Tryz.ntmps196
 go_wp2
 go_ret
 exact ⟨rfl, rfl⟩

/-- One step of the carry: the word of x + c, the rest stays as the next carry. -/
theorem next_any (g : Nat) (x c : Int) (w : World) (hg : Blk w g 164 #[.int .u64 c]) (hx0 : 0 ≤ x) (hc0 : 0 ≤ c) (hx : x + c < 18446744073709551616) :
  Calls Tryz.prog 217 #[.int .u64 x, .pointer (some ⟨g, 0, none⟩)] w fun e w' => e = .returned (.int .u32 ((x + c) % 4294967296)) ∧ w.setCell ⟨g, 0, none⟩ (.int .u64 ((x + c) / 4294967296)) = w' := by
 obtain ⟨c0, f0⟩ := hg.one
 have hs : IntKind.u64.wrap (x + c) = x + c := by rw [IntKind.wrap_u64]; omega
 have HX := Lib.hid hx
 clear hx
 go_enter Tryz.func217, Tryz.ntmps217
 go_wp2
 go_ret
 exact ⟨rfl, rfl⟩

end Go.Proofs.YtjajigkacccdgaaGreat

namespace Go.Proofs.YtjajigkacccdgaaGreat
set_option linter.unusedVariables false
set_option linter.unusedSimpArgs false
namespace Wd

theorem val_set {p : List Nat} {j : Nat} (d : Nat) (hj : j < p.length) : val (p.set j d) + 4294967296 ^ j * p[j]?.getD 0 = val p + 4294967296 ^ j * d := by
 induction p generalizing j with
 | nil => simp at hj
 | cons e p ih =>
  cases j with
  | zero => simp [val]; omega
  | succ j =>
   have h := ih (j := j) (by simpa using hj)
   simp only [List.set_cons_succ, val_cons, List.getElem?_cons_succ, Nat.pow_succ]
   grind
theorem Ws.set {p : List Nat} (h : Ws p) (j : Nat) {d : Nat} (hd : d < 4294967296) : Ws (p.set j d) := by
 intro x hx
 rcases List.mem_or_eq_of_mem_set hx with h1 | h1
 ·exact h x h1
 ·subst h1; exact hd
theorem get_set_other {p : List Nat} {i j : Nat} (d : Nat) (h : i ≠ j) : (p.set i d)[j]?.getD 0 = p[j]?.getD 0 := by
 rw [List.getElem?_set_ne h]

/-- Where the product stands after k words of b have been multiplied by x and added from word i on. -/
structure MInv (p0 : List Nat) (x : Nat) (b : List Nat) (i k : Nat) (p : List Nat) (c : Nat) : Prop where
 len : p.length = p0.length
 ws : Ws p
 cl : c < 4294967296
 eq : val p + c * 4294967296 ^ (i + k) = val p0 + x * val (b.take k) * 4294967296 ^ i
 rest : ∀ j, i + k ≤ j → p[j]?.getD 0 = p0[j]?.getD 0

theorem MInv.start {p0 : List Nat} (x : Nat) (b : List Nat) (i : Nat) (h : Ws p0) : MInv p0 x b i 0 p0 0 :=
 ⟨rfl, h, by decide, by simp [val], fun _ _ => rfl⟩

theorem MInv.bound {p0 b p : List Nat} {x i k c : Nat} (h : MInv p0 x b i k p c) (hx : x < 4294967296) (hb : Ws b) :
  p[i + k]?.getD 0 + x * b[k]?.getD 0 + c < 18446744073709551616 := by
 have h1 := h.ws.get (i + k)
 have h2 := hb.get k
 have h3 := h.cl
 have h4 : x * b[k]?.getD 0 ≤ 4294967295 * 4294967295 := Nat.mul_le_mul (by omega) (by omega)
 omega

theorem MInv.step {p0 b p : List Nat} {x i k c : Nat} (h : MInv p0 x b i k p c) (hx : x < 4294967296) (hb : Ws b) (hk : k < b.length) (hl : i + k < p0.length) :
  MInv p0 x b i (k + 1) (p.set (i + k) ((p[i + k]?.getD 0 + x * b[k]?.getD 0 + c) % 4294967296)) ((p[i + k]?.getD 0 + x * b[k]?.getD 0 + c) / 4294967296) := by
 have hbd := h.bound hx hb
 have hset := val_set (p := p) (j := i + k) ((p[i + k]?.getD 0 + x * b[k]?.getD 0 + c) % 4294967296) (by rw [h.len]; exact hl)
 have he := h.eq
 refine ⟨by rw [List.length_set]; exact h.len, h.ws.set _ (Nat.mod_lt _ (by decide)), ?_, ?_, ?_⟩
 ·omega
 ·have ht : b.take (k + 1) = b.take k ++ [b[k]?.getD 0] := by
   rw [List.take_succ_eq_append_getElem hk, List.getElem?_eq_getElem hk]; rfl
  rw [ht, val_snoc, List.length_take, Nat.min_eq_left (by omega)]
  rw [show i + (k + 1) = (i + k) + 1 by omega, Nat.pow_succ]
  rw [show 4294967296 ^ (i + k) = 4294967296 ^ i * 4294967296 ^ k from Nat.pow_add ..] at *
  generalize p[i + k]?.getD 0 = q at *
  generalize b[k]?.getD 0 = y at *
  generalize hT : q + x * y + c = T at *
  have hdm := Nat.div_add_mod T 4294967296
  generalize T / 4294967296 = D at *
  generalize T % 4294967296 = R at *
  generalize val (p.set (i + k) R) = V at *
  generalize val p = U at *
  generalize val p0 = U0 at *
  generalize val (b.take k) = Y at *
  generalize 4294967296 ^ i = M at *
  generalize 4294967296 ^ k = N at *
  subst hT
  have e1 : M * N * (4294967296 * D + R) = M * N * (q + x * y + c) := by rw [hdm]
  grind
 ·intro j hj
  rw [get_set_other _ (by omega)]
  exact h.rest j (by omega)

/-- After all words of b the carry goes into the next word. -/
theorem MInv.last {p0 b p : List Nat} {x i c : Nat} (h : MInv p0 x b i b.length p c) (hl : i + b.length < p0.length) (hz : p0[i + b.length]?.getD 0 = 0) :
  Ws (p.set (i + b.length) c) ∧ (p.set (i + b.length) c).length = p0.length ∧ val (p.set (i + b.length) c) = val p0 + x * val b * 4294967296 ^ i ∧ ∀ j, i + 1 + b.length ≤ j → (p.set (i + b.length) c)[j]?.getD 0 = p0[j]?.getD 0 := by
 have hset := val_set (p := p) (j := i + b.length) c (by rw [h.len]; exact hl)
 have h0 : p[i + b.length]?.getD 0 = 0 := by rw [h.rest _ (Nat.le_refl _), hz]
 have he := h.eq
 rw [List.take_length] at he
 rw [h0] at hset
 refine ⟨h.ws.set _ h.cl, by rw [List.length_set]; exact h.len, ?_, fun j hj => ?_⟩
 ·grind
 ·rw [get_set_other _ (by omega)]
  exact h.rest j (by omega)

/-- Where the product stands after i words of a. -/
structure OInv (a b : List Nat) (i : Nat) (p : List Nat) : Prop where
 len : p.length = a.length + b.length
 ws : Ws p
 eq : val p = val (a.take i) * val b
 rest : ∀ j, i + b.length ≤ j → p[j]?.getD 0 = 0

theorem OInv.start (a b : List Nat) : OInv a b 0 (List.replicate (a.length + b.length) 0) :=
 ⟨by simp, fun d hd => by rw [List.eq_of_mem_replicate hd]; decide, by rw [val_replicate_zero]; simp [val], fun j _ => by
  rw [List.getElem?_replicate]; split <;> rfl⟩

theorem OInv.step {a b p0 p : List Nat} {i c : Nat} (h : OInv a b i p0) (hi : i < a.length) (hm : MInv p0 (a[i]?.getD 0) b i b.length p c) : OInv a b (i + 1) (p.set (i + b.length) c) := by
 obtain ⟨h1, h2, h3, h4⟩ := hm.last (by rw [h.len]; omega) (h.rest _ (Nat.le_refl _))
 refine ⟨h2.trans h.len, h1, ?_, fun j hj => ?_⟩
 ·rw [h3, h.eq]
  have ht : a.take (i + 1) = a.take i ++ [a[i]?.getD 0] := by
   rw [List.take_succ_eq_append_getElem hi, List.getElem?_eq_getElem hi]; rfl
  rw [ht, val_snoc, List.length_take, Nat.min_eq_left (by omega)]
  grind
 ·rw [h4 j hj]; exact h.rest j (by omega)

theorem OInv.done {a b p : List Nat} (h : OInv a b a.length p) : val p = val a * val b := by
 rw [h.eq, List.take_length]

end Wd
end Go.Proofs.YtjajigkacccdgaaGreat
