/-
estimate of package whole: the walk. The contracts of bits.Len32 and LeadingZeros32 at this dump, as the kit lays them. LeadingZeros32 of math/bits at words that are not 0. subtractMultiple of package whole. No statement of the seat is proved here; no conditions beyond those of each theorem.
-/
import Derived.Test.YtjajigkacccdgaaGreatTdAP
import Derived.BigQuiet
import Derived.Shelf.Small.Bits
import Derived.Test.YtjajigkacccdgaaGreatProg
import Derived.Test.YtjajigkacccdgaaGreatTdAO
namespace Go.Proofs.YtjajigkacccdgaaGreat
set_option linter.unusedVariables false
set_option linter.unusedSimpArgs false
open Go.RowKit
open Wd

set_option maxRecDepth 100000 in
set_option maxHeartbeats 4000000 in
theorem estimate_any (A A' : Option Addr) (n m c c' : Nat) (u v : List Nat) (w : World) (h : Wat w A (n + 1) u) (h' : Wat w A' n v) (hn : n = m + 2) (hn0 : n ≤ 20000000000) (hf : 2147483648 ≤ v[m + 1]?.getD 0) (hlt : val u < 4294967296 * val v) :
  Calls Tryz.prog 224 #[.slice A (n + 1) c, .slice A' n c'] w fun e w' => ∃ g, e = .returned (.int .u64 ((g : Nat) : Int)) ∧ val u / val v ≤ g ∧ g ≤ val u / val v + 1 ∧ g ≤ 4294967296 ∧ Below w.heap.size w w' := by
 have hE := esF_of h.2.1 h'.2.1 (by have := h.1; omega) (by have := h'.1; omega) hf hlt
 have hfB := h'.2.1.get (m + 1)
 have hs := h'.2.1.get m
 have hun := h.2.1.get (m + 2)
 have hu1 := h.2.1.get (m + 1)
 have hu0 := h.2.1.get m
 obtain ⟨b, o, rfl, hb, hc⟩ := h.2.2 (by omega)
 obtain ⟨b', o', rfl, hb', hc'⟩ := h'.2.2 (by omega)
 have a2 := hc n (by omega)
 have a1 := hc (m + 1) (by omega)
 have a0 := hc m (by omega)
 have b1 := hc' (m + 1) (by omega)
 have b0 := hc' m (by omega)
 rw [hn] at a2
 rw [← hn] at a2
 have e2 : u[n]?.getD 0 = u[m + 2]?.getD 0 := by rw [hn]
 rw [e2] at a2
 obtain ⟨n1, hn1⟩ : ∃ k, k = m + 1 := ⟨_, rfl⟩
 have wn1 : IntKind.i64.wrap ((n : Int) - 1) = (n1 : Int) := by rw [IntWalk.i64_in _ (by omega)]; omega
 have wn2 : IntKind.i64.wrap ((n : Int) - 2) = (m : Int) := by rw [IntWalk.i64_in _ (by omega)]; omega
 have i1 : (0 : Int) ≤ (n : Int) := by omega
 have i2 : (n : Int) < (n : Int) + 1 := by omega
 have i3 : (0 : Int) ≤ (n1 : Int) := by omega
 have i4 : (n1 : Int) < (n : Int) + 1 := by omega
 have i5 : (n1 : Int) < (n : Int) := by omega
 have i6 : (0 : Int) ≤ (m : Int) := by omega
 have i7 : (m : Int) < (n : Int) + 1 := by omega
 have i8 : (m : Int) < (n : Int) := by omega
 rw [← hn1] at a1 b1 hE hf hfB
 have hor := or_words (u[m + 2]?.getD 0) (u[n1]?.getD 0) hun (by rw [hn1]; exact hu1)
 have wun : IntKind.u64.wrap ((u[m + 2]?.getD 0 : Nat) : Int) = ((u[m + 2]?.getD 0 : Nat) : Int) := by rw [IntKind.wrap_u64]; omega
 have wunB : IntKind.u64.wrap (((u[m + 2]?.getD 0 : Nat) : Int) * 4294967296) = ((u[m + 2]?.getD 0 : Nat) : Int) * 4294967296 := by rw [IntKind.wrap_u64]; omega
 have wu1 : IntKind.u64.wrap ((u[n1]?.getD 0 : Nat) : Int) = ((u[n1]?.getD 0 : Nat) : Int) := by rw [hn1, IntKind.wrap_u64]; omega
 have wu0 : IntKind.u64.wrap ((u[m]?.getD 0 : Nat) : Int) = ((u[m]?.getD 0 : Nat) : Int) := by rw [IntKind.wrap_u64]; omega
 have wf : IntKind.u64.wrap ((v[n1]?.getD 0 : Nat) : Int) = ((v[n1]?.getD 0 : Nat) : Int) := by rw [IntKind.wrap_u64]; omega
 have ws : IntKind.u64.wrap ((v[m]?.getD 0 : Nat) : Int) = ((v[m]?.getD 0 : Nat) : Int) := by rw [IntKind.wrap_u64]; omega
 have hu1' : u[n1]?.getD 0 < 4294967296 := by rw [hn1]; exact hu1
 have htB : u[m + 2]?.getD 0 * 4294967296 + u[n1]?.getD 0 < 18446744073709551616 := by omega
 generalize u[m + 2]?.getD 0 = un at *
 generalize u[n1]?.getD 0 = u1 at *
 generalize u[m]?.getD 0 = u0 at *
 generalize v[n1]?.getD 0 = f at *
 generalize v[m]?.getD 0 = s at *
 generalize un * 4294967296 + u1 = t at *
 have hst := hE.start hfB
 have hy0 : ((f : Int) == 0) = false := by simp; omega
 have hy1 : ¬ f = 0 := by omega
 have q1 : IntKind.u64.wrap ((t : Int).tdiv (f : Int)) = ((t / f : Nat) : Int) := by
  rw [IntWalk.u64_quo _ _ ⟨by omega, by omega, by omega⟩]; rfl
 have q2 : ((t : Int).tmod (f : Int)) = ((t % f : Nat) : Int) := by
  rw [IntWalk.rem_in _ _ (by omega)]; rfl
 have q1' : IntKind.u64.wrap ((t : Int) / (f : Int)) = ((t / f : Nat) : Int) := by
  have e : ((t : Int) / (f : Int)) = ((t / f : Nat) : Int) := rfl
  have := Nat.lt_of_le_of_lt (Nat.div_le_self t f) htB
  rw [e, IntKind.wrap_u64]
  generalize t / f = q at *
  clear q1
  omega
 have q2' : ((t : Int) % (f : Int)) = ((t % f : Nat) : Int) := rfl
 have HE := Lib.hid hE
 have HST := Lib.hid hst
 have HB := Lib.hid (And.intro hfB (And.intro hs hu0))
 generalize t / f = g0 at *
 generalize t % f = r0 at *
 clear hE hst hfB hs hun hu1 hu0 hu1' htB hc hc' hb hb' hf hlt h h' hn hn0 hn1 e2
 go_enter Tryz.func224, Tryz.ntmps224
 go_wp2
 go_quiet (fail)
 have HB1 := Lib.hid (belowN w nq)
 replace a0 : (w.drewN nq).cell? ⟨b, o + m, none⟩ = _ := a0
 replace b1 : (w.drewN nq).cell? ⟨b', o' + n1, none⟩ = _ := b1
 replace b0 : (w.drewN nq).cell? ⟨b', o' + m, none⟩ = _ := b0
 clear a1 a2
 generalize w.drewN nq = w1 at *
 go_wp2
 go_quiet (fail)
 have HB2 := Lib.hid (HB1.out.trans ((belowN w1 nq).mono HB1.out.size))
 replace a0 : (w1.drewN nq).cell? ⟨b, o + m, none⟩ = _ := a0
 clear b0 b1 HB1
 generalize w1.drewN nq = w2 at *
 go_wp2
 go_quiet (fail)
 have HB3 := Lib.hid (HB2.out.trans ((belowN w2 nq).mono HB2.out.size))
 replace a0 : (w2.drewN nq).cell? ⟨b, o + m, none⟩ = _ := a0
 clear HB2
 generalize w2.drewN nq = w3 at *
 clear q1 q1' q2 q2' hor wun wunB wu1 wf ws
 go_wp2
 go_loopw [9, 10] (fun t9 t10 wr => ∃ g r : Nat, t9 = .int .u64 (g : Int) ∧ t10 = .int .u64 (r : Int) ∧ wr = w3 ∧ Hid (EsI f s t u0 (val u / val v) g r)) (fun t9 _ _ => (intOf t9).toNat)
 case atStart => exact ⟨g0, r0, rfl, rfl, rfl, HST.out⟩
 case round =>
  clear HST
  obtain ⟨g, r, rfl, rfl, rfl, hR⟩ := hrel
  obtain ⟨r1, r2, r3, r4⟩ := hR.out
  obtain ⟨hfB, hs, hu0⟩ := HB.out
  have wg : IntKind.u64.wrap ((g : Int) - 1) = (g : Int) - 1 ∨ g = 0 := by
   by_cases hg : g = 0
   ·exact Or.inr hg
   ·left; rw [IntKind.wrap_u64]; omega
  clear wg
  by_cases hbig : 4294967296 ≤ g
  ·have hQ := HE.out.big hbig
   obtain ⟨m1, m2, m3, m4⟩ := hR.out.more hQ
   have hQ2 : (g : Int) / 4294967296 ≠ 0 := by omega
   have wg : IntKind.u64.wrap ((g : Int) - 1) = ((g - 1 : Nat) : Int) := by rw [IntKind.wrap_u64]; omega
   have wrf : IntKind.u64.wrap ((r : Int) + (f : Int)) = ((r + f : Nat) : Int) := by rw [IntKind.wrap_u64]; omega
   have HM := Lib.hid (And.intro m1 (And.intro m2 (And.intro m3 m4)))
   clear hR r1 r2 r3 r4 hfB hs hu0 m1 m2 m3 m4 hbig hQ
   go_wp2
   ·have hb9 : (((r : Int) + (f : Int)) / 4294967296 != 0) = true := by assumption
    have hb8 : ¬ ((r : Int) + (f : Int)) / 4294967296 = 0 := by simpa using hb9
    have hdn := HE.out.brk HM.out.2.1 (by omega) HM.out.2.2.1
    go_ret
    exact ⟨g - 1, rfl, HM.out.1, hdn, HM.out.2.2.1, HB3.out⟩
   ·have hb9 : (((r : Int) + (f : Int)) / 4294967296 != 0) = false := by assumption
    have hb8 : ((r : Int) + (f : Int)) / 4294967296 = 0 := by simpa using hb9
    go_roundw
    case rel => exact ⟨g - 1, r + f, rfl, rfl, trivial, Lib.hid ⟨HM.out.1, HM.out.2.1, by have := HM.out.2.2.1; omega, by omega⟩⟩
    case measure => simp [intOf]; have := HM.out.2.2.2; omega
  ·have hQ2 : (g : Int) / 4294967296 = 0 := by omega
   have hgs : g * s ≤ 4294967295 * 4294967295 := Nat.mul_le_mul (by omega) (by omega)
   have egs : (g : Int) * (s : Int) = ((g * s : Nat) : Int) := by push_cast; rfl
   have wgs : IntKind.u64.wrap ((g : Int) * (s : Int)) = ((g * s : Nat) : Int) := by rw [egs, IntKind.wrap_u64]; omega
   have hor2 := or_words r u0 r4 hu0
   have wrB : IntKind.u64.wrap ((r : Int) * 4294967296) = (r : Int) * 4294967296 := by rw [IntKind.wrap_u64]; omega
   by_cases hov : r * 4294967296 + u0 < g * s
   ·have hQ := HE.out.over hR.out hov
    obtain ⟨m1, m2, m3, m4⟩ := hR.out.more hQ
    have hov2 : ((r * 4294967296 + u0 : Nat) : Int) < ((g * s : Nat) : Int) := by omega
    have wg : IntKind.u64.wrap ((g : Int) - 1) = ((g - 1 : Nat) : Int) := by rw [IntKind.wrap_u64]; omega
    have wrf : IntKind.u64.wrap ((r : Int) + (f : Int)) = ((r + f : Nat) : Int) := by rw [IntKind.wrap_u64]; omega
    have HM := Lib.hid (And.intro m1 (And.intro m2 (And.intro m3 m4)))
    clear hR r1 r2 r3 r4 hfB hs hu0 m1 m2 m3 m4 hbig hQ hgs egs hov
    generalize g * s = gs at *
    generalize r * 4294967296 + u0 = X at *
    go_wp2
    ·have hb9 : (((r : Int) + (f : Int)) / 4294967296 != 0) = true := by assumption
     have hb8 : ¬ ((r : Int) + (f : Int)) / 4294967296 = 0 := by simpa using hb9
     have hdn := HE.out.brk HM.out.2.1 (by omega) HM.out.2.2.1
     go_ret
     exact ⟨g - 1, rfl, HM.out.1, hdn, HM.out.2.2.1, HB3.out⟩
    ·have hb9 : (((r : Int) + (f : Int)) / 4294967296 != 0) = false := by assumption
     have hb8 : ((r : Int) + (f : Int)) / 4294967296 = 0 := by simpa using hb9
     go_roundw
     case rel => exact ⟨g - 1, r + f, rfl, rfl, trivial, Lib.hid ⟨HM.out.1, HM.out.2.1, by have := HM.out.2.2.1; omega, by omega⟩⟩
     case measure => simp [intOf]; have := HM.out.2.2.2; omega
   ·have hdn := HE.out.done r2 (by omega) (by omega)
    have hov2 : ¬ ((r * 4294967296 + u0 : Nat) : Int) < ((g * s : Nat) : Int) := by omega
    have HM := Lib.hid (And.intro r1 (And.intro hdn (show g ≤ 4294967296 by omega)))
    clear hR r1 r2 r3 r4 hfB hs hu0 hbig hgs egs hov hdn
    generalize g * s = gs at *
    generalize r * 4294967296 + u0 = X at *
    go_wp2
    go_ret
    exact ⟨g, rfl, HM.out.1, HM.out.2.1, HM.out.2.2, HB3.out⟩

end Go.Proofs.YtjajigkacccdgaaGreat

namespace Go.Proofs.YtjajigkacccdgaaGreat
open Go.Shelf
def Tryz.lays128_ren : Go.Shelf.Ren := ⟨fun | 128 => 167 | n => n, fun | 51 => 59 | 3 => 3 | 4 => 4 | 46 => 159 | 5 => 5 | 9 => 9 | n => n, fun | n => n⟩

def Tryz.lays133_ren : Go.Shelf.Ren := ⟨fun | 133 => 222 | 128 => 167 | n => n, fun | 51 => 59 | 3 => 3 | 4 => 4 | 46 => 159 | 5 => 5 | 9 => 9 | n => n, fun | n => n⟩
theorem Tryz.lays133 : Go.Proofs.Lays.n133 Tryz.prog Tryz.lays133_ren := {
 mixed := by kernel_rfl
 f128 := Tryz.func167.trans (congrArg some (by kernel_rfl))
 f133 := Tryz.func222.trans (congrArg some (by kernel_rfl))
 t3 := Tryz.underlying3
 a3 := Tryz.isAgg3
 z3 := Tryz.sizeOf3
 v3 := Tryz.zeroValue3
 t4 := Tryz.underlying4
 a4 := Tryz.isAgg4
 z4 := Tryz.sizeOf4
 v4 := Tryz.zeroValue4
 t5 := Tryz.underlying5
 a5 := Tryz.isAgg5
 z5 := Tryz.sizeOf5
 v5 := Tryz.zeroValue5
 t9 := Tryz.underlying9
 a9 := Tryz.isAgg9
 z9 := Tryz.sizeOf9
 v9 := Tryz.zeroValue9
 t46 := Tryz.underlying159
 a46 := Tryz.isAgg159
 z46 := Tryz.sizeOf159
 v46 := Tryz.zeroValue159
 t51 := Tryz.underlying59
 a51 := Tryz.isAgg59
 z51 := Tryz.sizeOf59
 v51 := Tryz.zeroValue59 }
end Go.Proofs.YtjajigkacccdgaaGreat

namespace Go.Proofs.YtjajigkacccdgaaGreat
set_option linter.unusedVariables false
set_option linter.unusedSimpArgs false
open Go.RowKit
open Wd

theorem bitLen_spec : ∀ n x : Nat, x < 2 ^ n → n ≤ 64 → x ≠ 0 → 2 ^ (Lib.bitLen x - 1) ≤ x ∧ x < 2 ^ Lib.bitLen x ∧ 1 ≤ Lib.bitLen x
 | 0, x, h, _, h0 => by simp at h; omega
 | n + 1, x, h, hn, h0 => by
  have h64 : x < 2 ^ 64 := Nat.lt_of_lt_of_le h (Nat.pow_le_pow_right (by decide) hn)
  rw [Lib.bitLen_half x h0 h64]
  by_cases h1 : x / 2 = 0
  ·have hb : Lib.bitLen 0 = 0 := by decide
   rw [h1, hb]
   refine ⟨by simp; omega, by simp; omega, by omega⟩
  ·rw [Nat.pow_succ] at h
   obtain ⟨a, b, c⟩ := bitLen_spec n (x / 2) (by omega) (by omega) h1
   obtain ⟨k, hk⟩ : ∃ k, Lib.bitLen (x / 2) = k + 1 := ⟨Lib.bitLen (x / 2) - 1, by omega⟩
   rw [hk] at a b ⊢
   rw [Nat.add_sub_cancel] at a
   rw [show 1 + (k + 1) - 1 = k + 1 by omega, show 1 + (k + 1) = k + 1 + 1 by omega, Nat.pow_succ 2 (k + 1), Nat.pow_succ]
   rw [Nat.pow_succ] at b
   refine ⟨by omega, by omega, by omega⟩

theorem lz_any (x : Nat) (w : World) (h0 : x ≠ 0) (h1 : x < 4294967296) :
  Calls Tryz.prog 222 #[.int .u32 (x : Int)] w fun e w' => ∃ s : Nat, e = .returned (.int .i64 (s : Int)) ∧ s < 32 ∧ 2147483648 ≤ x * 2 ^ s ∧ x * 2 ^ s < 4294967296 ∧ w' = w := by
 have T := Any.bits_LeadingZeros32 Tryz.lays133 (x : Int) w (by omega) (by omega)
 obtain ⟨a, b, c⟩ := bitLen_spec 32 x (by omega) (by omega) h0
 have hle : Lib.bitLen x ≤ 32 := Lib.bitLen_le x 32 (by omega) (by omega)
 rw [Int.toNat_natCast] at T
 generalize Lib.bitLen x = L at *
 refine T.mono ?_
 rintro e w' ⟨rfl, rfl⟩
 obtain ⟨k, rfl⟩ : ∃ k, L = k + 1 := ⟨L - 1, by omega⟩
 rw [Nat.add_sub_cancel] at a
 have e1 : 2 ^ k * 2 ^ (32 - (k + 1)) = 2 ^ 31 := by rw [← Nat.pow_add]; congr 1; omega
 have e2 : 2 ^ (k + 1) * 2 ^ (32 - (k + 1)) = 2 ^ 32 := by rw [← Nat.pow_add]; congr 1; omega
 have hp : 0 < 2 ^ (32 - (k + 1)) := Nat.pos_of_ne_zero (by simp)
 have m1 := Nat.mul_le_mul_right (2 ^ (32 - (k + 1))) a
 have m2 := Nat.mul_lt_mul_of_pos_right b hp
 rw [e1] at m1
 rw [e2] at m2
 exact ⟨32 - (k + 1), by congr 2; omega, by omega, by omega, by omega, rfl⟩

end Go.Proofs.YtjajigkacccdgaaGreat

namespace Go.Proofs.YtjajigkacccdgaaGreat
set_option linter.unusedVariables false
set_option linter.unusedSimpArgs false
open Go.RowKit
open Wd

/-- Words P with the m words from k on replaced by p. -/
def win (P : List Nat) (k m : Nat) (p : List Nat) : List Nat := P.take k ++ p ++ P.drop (k + m)
theorem win_len {P p : List Nat} {k m : Nat} (hk : k + m ≤ P.length) (hp : p.length = m) : (win P k m p).length = P.length := by
 unfold win
 rw [List.length_append, List.length_append, List.length_take, List.length_drop, hp]
 omega
theorem win_get {P p : List Nat} {k m i : Nat} (hk : k + m ≤ P.length) (hp : p.length = m) (hi : i < m) : (win P k m p)[k + i]?.getD 0 = p[i]?.getD 0 := by
 unfold win
 rw [List.append_assoc, List.getElem?_append_right (by rw [List.length_take]; omega), List.length_take, Nat.min_eq_left (by omega), Nat.add_sub_cancel_left, List.getElem?_append_left (by omega)]
theorem win_set {P p : List Nat} {k m i d : Nat} (hk : k + m ≤ P.length) (hp : p.length = m) (hi : i < m) : (win P k m p).set (k + i) d = win P k m (p.set i d) := by
 unfold win
 rw [List.append_assoc, List.set_append_right _ _ (by rw [List.length_take]; omega), List.length_take, Nat.min_eq_left (by omega), Nat.add_sub_cancel_left, List.set_append_left _ _ (by omega), ← List.append_assoc]
theorem win_self {P : List Nat} {k m : Nat} (hk : k + m ≤ P.length) : win P k m ((P.drop k).take m) = P := by
 unfold win
 rw [List.append_assoc, ← List.drop_drop, List.take_append_drop, List.take_append_drop]
theorem win_ws {P p : List Nat} {k m : Nat} (h : Ws P) (hp : Ws p) : Ws (win P k m p) := ((h.take k).append hp).append (h.drop _)
theorem win_of_len {P : List Nat} {k m : Nat} (hk : k + m ≤ P.length) : ((P.drop k).take m).length = m := by
 rw [List.length_take, List.length_drop]; omega

theorem Bx.put {b : Nat} {w w' : World} (h : Bx b w w') {p : Addr} (hp : w.heap.size ≤ p.block) (v : Value) : Bx b w (w'.setCell p v) :=
 ⟨h.os, h.tape, h.output, by rw [World.size_setCell]; exact h.size, fun k hk hne => (Below.heap_setCell _ p v k (by omega)).trans (h.block k hk hne)⟩
theorem less_facts {x t bb : Nat} (hx : x < 4294967296) (ht : t < 4294967296) (hb : bb ≤ 1) : ∃ D : Int, IntKind.u64.wrap (IntKind.u64.wrap ((x : Int) - (t : Int)) - (bb : Int)) = D ∧ D % 4294967296 = ((lessW x (t + bb) : Nat) : Int) ∧ D / 9223372036854775808 = ((lessB x (t + bb) : Nat) : Int) := by
 refine ⟨_, rfl, ?_, ?_⟩
 ·rw [IntKind.wrap_u64, IntKind.wrap_u64]
  unfold lessW
  split <;> omega
 ·rw [IntKind.wrap_u64, IntKind.wrap_u64]
  unfold lessB
  split <;> omega

/-- Where subtractMultiple stands. -/
def SmS (w : World) (b o N k n f : Nat) (P v : List Nat) (i : Nat) (bb : Nat) (wr : World) : Prop :=
 ∃ p cc, SmInv ((P.drop k).take (n + 1)) v f i p cc bb ∧ Rw wr b o N (win P k (n + 1) p) ∧ Blk wr w.heap.size 164 #[.int .u64 (cc : Int)] ∧ Bx b w wr

set_option maxRecDepth 100000 in
set_option maxHeartbeats 4000000 in
theorem subMul_any (b o N k n c c' f : Nat) (A' : Option Addr) (P v : List Nat) (w : World) (hP : Rw w b o N P) (hk : k + (n + 1) ≤ N) (h' : Wat w A' n v) (hb : ∀ b' o', A' = some ⟨b', o', none⟩ → b' ≠ b) (hf : f ≤ 4294967296) (hn : n ≤ 20000000000) :
  Calls Tryz.prog 225 #[.slice (some ⟨b, o + k, none⟩) (n + 1) c, .slice A' n c', .int .u64 (f : Int)] w fun e w' => ∃ p cc bb, e = .returned (.bool (((bb : Nat) : Int) != 0)) ∧ SmInv ((P.drop k).take (n + 1)) v f (n + 1) p cc bb ∧ Rw w' b o N (win P k (n + 1) p) ∧ Bx b w w' := by
 have hkP : k + (n + 1) ≤ P.length := by rw [hP.1]; exact hk
 have HP := Lib.hid hP
 have HV := Lib.hid h'
 have HB := Lib.hid hb
 have HF := Lib.hid hf
 have HK := Lib.hid hkP
 have HWL := Lib.hid (win_of_len hkP)
 have hWu : Ws ((P.drop k).take (n + 1)) := (hP.2.1.drop k).take _
 have HWU := Lib.hid hWu
 have hst : SmS w b o N k n f P v 0 0 (w.alloc (.cells #[.int .u64 0] 164)) :=
  ⟨_, 0, SmInv.start v f hWu, by rw [win_self hkP]; exact hP.below ((Below.refl _ w).alloc (Nat.le_refl _) _) hP.2.2.1, Blk.new w _ _, Bx.of ((Below.refl _ w).alloc (Nat.le_refl _) _)⟩
 have HST := Lib.hid hst
 have HBS := Lib.hid hP.2.2.1
 clear hP h' hb hf hkP hWu hst
 go_enter Tryz.func225, Tryz.ntmps225
 go_wp2_with fail
 refine (carrier_any 0 w).mono ?_
 rintro e w1 ⟨rfl, rfl⟩
 go_wp2_with fail
 go_loopw [7, 15] (fun t7 t wr => ∃ i bb : Nat, i ≤ n + 1 ∧ t = .int .i64 i ∧ t7 = .int .u64 (bb : Int) ∧ Hid (SmS w b o N k n f P v i bb wr)) (fun _ t _ => n + 1 - (intOf t).toNat)
 case atStart => exact ⟨0, 0, Nat.zero_le _, rfl, rfl, HST.out⟩
 case round =>
  clear HST
  obtain ⟨i, bb, hi, rfl, rfl, hR⟩ := hrel
  obtain ⟨wu, rfl⟩ : ∃ v, v = wr := ⟨_, rfl⟩
  obtain ⟨p, cc, s1, s2, s3, s4⟩ := hR.out
  have hpl : p.length = n + 1 := by rw [s1.len]; exact HWL.out
  by_cases hlt : i < n + 1
  ·have hvw := HV.out.2.1
   obtain ⟨m1, m2⟩ := s1.step HWU.out hvw HF.out (show i < ((P.drop k).take (n + 1)).length by rw [HWL.out]; exact hlt)
   have hxi := HWU.out.get i
   have hrd := s2.2.2.2.1 (k + i) (by omega)
   rw [win_get HK.out hpl hlt, s1.high i (Nat.le_refl _)] at hrd
   have hfz := s2.2.2.2.2 (k + i) (by omega)
   have HNX := Lib.hid (fun W (hW : Blk W w.heap.size 164 #[.int .u64 ((cc : Nat) : Int)]) => next_nat w.heap.size (v[i]?.getD 0 * f) cc ((v[i]?.getD 0 * f : Nat) : Int) rfl W hW m1)
   have htl : (v[i]?.getD 0 * f + cc) % 4294967296 < 4294967296 := Nat.mod_lt _ (by decide)
   obtain ⟨D, hD, hD1, hD2⟩ := less_facts hxi htl s1.borrow
   have hwd := m2.ws
   have hne : w.heap.size ≠ b := by have := HBS.out; omega
   rw [← Nat.add_assoc] at hrd hfz
   have hset := (s2.heap (w' := (wu.setCell ⟨w.heap.size, 0, none⟩ (.int .u64 (((v[i]?.getD 0 * f + cc) / 4294967296 : Nat) : Int))).drew) (by show wu.heap.size ≤ (wu.setCell _ _).heap.size; rw [World.size_setCell]; exact Nat.le_refl _) (Below.heap_setCell wu ⟨w.heap.size, 0, none⟩ _ b (fun h => hne h.symm)))
   have hd' : lessW (((P.drop k).take (n + 1))[i]?.getD 0) ((v[i]?.getD 0 * f + cc) % 4294967296 + bb) < 4294967296 := by
    have := s1.borrow
    unfold lessW
    split <;> omega
   have hc1 := hset.2.2.2.1 (k + i) (by omega)
   have hc2 := hset.2.2.2.2 (k + i) (by omega)
   rw [win_get HK.out hpl hlt, s1.high i (Nat.le_refl _), ← Nat.add_assoc] at hc1
   rw [← Nat.add_assoc] at hc2
   have hrw := hset.set (i := k + i) (by omega) hd'
   rw [win_set HK.out hpl hlt, ← Nat.add_assoc] at hrw
   have hbl := Blk.far (Blk.drew (Blk.set s3 0 (.int .u64 (((v[i]?.getD 0 * f + cc) / 4294967296 : Nat) : Int)))) (p := ⟨b, o + k + i, none⟩) hne (.int .u32 ((lessW (((P.drop k).take (n + 1))[i]?.getD 0) ((v[i]?.getD 0 * f + cc) % 4294967296 + bb) : Nat) : Int))
   have hbx := ((s4.put (p := ⟨w.heap.size, 0, none⟩) (Nat.le_refl _) (.int .u64 (((v[i]?.getD 0 * f + cc) / 4294967296 : Nat) : Int))).drew).set (o + k + i) (.int .u32 ((lessW (((P.drop k).take (n + 1))[i]?.getD 0) ((v[i]?.getD 0 * f + cc) % 4294967296 + bb) : Nat) : Int))
   have hN : SmS w b o N k n f P v (i + 1) (lessB (((P.drop k).take (n + 1))[i]?.getD 0) ((v[i]?.getD 0 * f + cc) % 4294967296 + bb)) _ := ⟨_, _, m2, hrw, hbl, hbx⟩
   have HN := Lib.hid hN
   have Q3 := Lib.hid (Blk.drew s3)
   have hpm : v[i]?.getD 0 * f < 18446744073709551616 := by omega
   have hvi := hvw.get i
   have hzero : ¬ i < n → v[i]?.getD 0 = 0 := fun hh => by rw [List.getElem?_eq_none (by have := HV.out.1; omega)]; rfl
   have hr0 : wu.drew.cell? ⟨b, o + k + i, none⟩ = some (.int .u32 ((((P.drop k).take (n + 1))[i]?.getD 0 : Nat) : Int)) := hrd
   have wxi : IntKind.u64.wrap ((((P.drop k).take (n + 1))[i]?.getD 0 : Nat) : Int) = ((((P.drop k).take (n + 1))[i]?.getD 0 : Nat) : Int) := by rw [IntKind.wrap_u64]; omega
   have wtt : IntKind.u64.wrap (((v[i]?.getD 0 * f + cc) % 4294967296 : Nat) : Int) = (((v[i]?.getD 0 * f + cc) % 4294967296 : Nat) : Int) := by rw [IntKind.wrap_u64]; omega
   clear hN hrw hbl hbx hset hR s1 s2 s3 m2 m1 hpl hwd htl hd' hxi
   generalize lessW (((P.drop k).take (n + 1))[i]?.getD 0) ((v[i]?.getD 0 * f + cc) % 4294967296 + bb) = d' at *
   generalize lessB (((P.drop k).take (n + 1))[i]?.getD 0) ((v[i]?.getD 0 * f + cc) % 4294967296 + bb) = b2 at *
   generalize (v[i]?.getD 0 * f + cc) % 4294967296 = tt at *
   generalize (v[i]?.getD 0 * f + cc) / 4294967296 = c2 at *
   generalize ((P.drop k).take (n + 1))[i]?.getD 0 = x at *
   have i1 : (0 : Int) ≤ (i : Int) := by omega
   have i2 : (i : Int) < (n : Int) + 1 := by omega
   by_cases hin : i < n
   ·obtain ⟨b', o', rfl, hb', hc'⟩ := HV.out.2.2 (by omega)
    have hd0 : wu.cell? ⟨b', o' + i, none⟩ = some (.int .u32 ((v[i]?.getD 0 : Nat) : Int)) := (World.cell?_of_block (a := ⟨b', o' + i, none⟩) (s4.block b' hb' (HB.out b' o' rfl))).trans (hc' i hin)
    have wvi : IntKind.u64.wrap ((v[i]?.getD 0 : Nat) : Int) = ((v[i]?.getD 0 : Nat) : Int) := by rw [IntKind.wrap_u64]; omega
    have epr : ((v[i]?.getD 0 : Nat) : Int) * (f : Int) = ((v[i]?.getD 0 * f : Nat) : Int) := by push_cast; rfl
    have wpr : IntKind.u64.wrap (((v[i]?.getD 0 : Nat) : Int) * (f : Int)) = ((v[i]?.getD 0 * f : Nat) : Int) := by rw [epr, IntKind.wrap_u64]; omega
    have i3 : (i : Int) < (n : Int) := by omega
    generalize v[i]?.getD 0 * f = pr at *
    generalize v[i]?.getD 0 = vi at *
    clear epr hpm hvi hzero hc' s4
    go_wp2_with fail
    go_region_held3 (fun w' => w'.cell? ⟨b, o + k + i, none⟩ = some (.int .u32 (x : Int))) (first | assumption)
     (first | (go_at_call 217; refine (HNX.out _ Q3.out).mono ?_; rintro e w3 ⟨rfl, rfl⟩))
    go_wp2
    go_roundw
    case rel => exact ⟨i + 1, b2, by omega, by go_num, rfl, HN.out⟩
    case measure => simp [intOf]; omega
   ·have hv0 := hzero hin
    have i3 : ¬ (i : Int) < (n : Int) := by omega
    rw [hv0, Nat.zero_mul] at HNX
    clear hv0 hzero hpm hvi s4
    go_wp2_with fail
    go_region_held3 (fun w' => w'.cell? ⟨b, o + k + i, none⟩ = some (.int .u32 (x : Int))) (first | assumption)
     (first | (go_at_call 217; refine (HNX.out _ Q3.out).mono ?_; rintro e w3 ⟨rfl, rfl⟩))
    go_wp2
    go_roundw
    case rel => exact ⟨i + 1, b2, by omega, by go_num, rfl, HN.out⟩
    case measure => simp [intOf]; omega
  ·obtain rfl : i = n + 1 := by omega
   have HF2 := Lib.hid (And.intro s1 (And.intro s2 s4))
   clear hR s1 s2 s3 s4 hpl
   go_wp2
   go_ret
   exact ⟨p, cc, bb, rfl, HF2.out⟩

end Go.Proofs.YtjajigkacccdgaaGreat
