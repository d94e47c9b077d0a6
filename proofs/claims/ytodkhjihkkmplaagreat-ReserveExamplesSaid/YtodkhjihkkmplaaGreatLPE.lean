/-
Plain law of words in base 2^32: division by one word, a multiple subtracted, the long division. Contract of Mul of package whole. What divWords, GCD, DivMod, Add and Sub of package whole owe up to a bound M; divWords for dividends of at most two words. No statement of the seat is proved here; no conditions beyond those of each theorem.
-/
import Derived.Test.YtodkhjihkkmplaaGreatLPC
import Derived.Test.YtodkhjihkkmplaaGreatLPD
namespace Go.Proofs.YtodkhjihkkmplaaGreat
namespace Wd
set_option linter.unusedVariables false
set_option linter.unusedSimpArgs false

theorem val_take_succ (l : List Nat) (i : Nat) : val (l.take (i + 1)) = val (l.take i) + 4294967296 ^ i * l[i]?.getD 0 := by
 by_cases h : i < l.length
 ·rw [List.take_add_one, List.getElem?_eq_getElem h]
  show val (l.take i ++ [l[i]]) = _
  rw [val_snoc, List.length_take, Nat.min_eq_left (by omega)]
  rfl
 ·rw [List.take_of_length_le (by omega), List.take_of_length_le (by omega), List.getElem?_eq_none (by omega)]
  simp
theorem val_drop_succ (l : List Nat) (i : Nat) : val (l.drop i) = l[i]?.getD 0 + 4294967296 * val (l.drop (i + 1)) := by
 by_cases h : i < l.length
 ·rw [List.drop_eq_getElem_cons h, val_cons, List.getElem?_eq_getElem h]
  rfl
 ·rw [List.drop_eq_nil_of_le (by omega), List.drop_eq_nil_of_le (by omega), List.getElem?_eq_none (by omega)]
  rfl
theorem getD_drop (l : List Nat) (k i : Nat) : (l.drop k)[i]?.getD 0 = l[k + i]?.getD 0 := by rw [List.getElem?_drop]

/-- While the words from i on have been divided by y: p in place of l, r over. -/
structure SdInv (l : List Nat) (y i : Nat) (p : List Nat) (r : Nat) : Prop where
 len : p.length = l.length
 ws : Ws p
 low : ∀ j, j < i → p[j]?.getD 0 = l[j]?.getD 0
 eq : val (l.drop i) = y * val (p.drop i) + r
 rest : r < y
theorem SdInv.start {l : List Nat} {y : Nat} (h : Ws l) (hy : 0 < y) : SdInv l y l.length l 0 := ⟨rfl, h, fun _ _ => rfl, by simp [val_nil], hy⟩
theorem SdInv.step {l p : List Nat} {y i r : Nat} (h : SdInv l y (i + 1) p r) (hl : Ws l) (hi : i < l.length) (hy : y < 4294967296) :
  SdInv l y i (p.set i ((r * 4294967296 + l[i]?.getD 0) / y)) ((r * 4294967296 + l[i]?.getD 0) % y) ∧ (r * 4294967296 + l[i]?.getD 0) / y < 4294967296 ∧ r * 4294967296 + l[i]?.getD 0 < 18446744073709551616 := by
 have hd := hl.get i
 have hr := h.rest
 have hx : r * 4294967296 + l[i]?.getD 0 < y * 4294967296 := by
  have : (r + 1) * 4294967296 ≤ y * 4294967296 := Nat.mul_le_mul_right _ hr
  omega
 have hq : (r * 4294967296 + l[i]?.getD 0) / y < 4294967296 := by
  rw [Nat.div_lt_iff_lt_mul (by omega)]
  omega
 refine ⟨⟨by rw [List.length_set]; exact h.len, h.ws.set i hq, fun j hj => ?_, ?_, Nat.mod_lt _ (by omega)⟩, hq, by omega⟩
 ·rw [get_set_other _ (by omega)]
  exact h.low j (by omega)
 ·have e1 : (p.set i ((r * 4294967296 + l[i]?.getD 0) / y)).drop (i + 1) = p.drop (i + 1) := by rw [List.drop_set_of_lt (by omega)]
  have e2 : (p.set i ((r * 4294967296 + l[i]?.getD 0) / y))[i]?.getD 0 = (r * 4294967296 + l[i]?.getD 0) / y := by rw [List.getElem?_set, if_pos rfl, if_pos (by rw [h.len]; exact hi)]; rfl
  rw [val_drop_succ l i, val_drop_succ (p.set i _) i, e1, e2, h.eq]
  have hdm := Nat.div_add_mod (r * 4294967296 + l[i]?.getD 0) y
  generalize (r * 4294967296 + l[i]?.getD 0) / y = q at *
  generalize (r * 4294967296 + l[i]?.getD 0) % y = m at *
  rw [Nat.mul_add, Nat.mul_add, Nat.mul_left_comm]
  omega
theorem SdInv.done {l p : List Nat} {y r : Nat} (h : SdInv l y 0 p r) : val p = val l / y ∧ r = val l % y := by
 have h1 := h.eq
 have h2 := h.rest
 simp only [List.drop_zero] at h1
 have h3 := Nat.div_mod_unique (a := val l) (b := y) (c := r) (d := val p) (by omega)
 have h4 := h3.2 ⟨by rw [h1]; omega, h2⟩
 exact ⟨h4.1.symm, h4.2.symm⟩

/-- While the words below i of f v have been taken from u: p in place of u, c the carry of the product, b the borrow. -/
structure SmInv (u v : List Nat) (f i : Nat) (p : List Nat) (c b : Nat) : Prop where
 len : p.length = u.length
 ws : Ws p
 high : ∀ j, i ≤ j → p[j]?.getD 0 = u[j]?.getD 0
 carry : c < 4294967296
 borrow : b ≤ 1
 none : v.length < i → c = 0
 eq : val (u.take i) + 4294967296 ^ i * (b + c) = val (p.take i) + f * val (v.take i)
theorem SmInv.start {u : List Nat} (v : List Nat) (f : Nat) (hu : Ws u) : SmInv u v f 0 u 0 0 := ⟨rfl, hu, fun _ _ => rfl, by decide, by decide, fun _ => rfl, by simp [val_nil]⟩
/-- The word that is left of x less y, with what is borrowed. -/
def lessW (x y : Nat) : Nat := if y ≤ x then x - y else x + 4294967296 - y
def lessB (x y : Nat) : Nat := if y ≤ x then 0 else 1
theorem SmInv.step {u v p : List Nat} {f i c b : Nat} (h : SmInv u v f i p c b) (hu : Ws u) (hv : Ws v) (hf : f ≤ 4294967296) (hi : i < u.length) :
  v[i]?.getD 0 * f + c < 18446744073709551616 ∧ SmInv u v f (i + 1) (p.set i (lessW (u[i]?.getD 0) ((v[i]?.getD 0 * f + c) % 4294967296 + b))) ((v[i]?.getD 0 * f + c) / 4294967296) (lessB (u[i]?.getD 0) ((v[i]?.getD 0 * f + c) % 4294967296 + b)) := by
 have hvi := hv.get i
 have hui := hu.get i
 have hc := h.carry
 have hb := h.borrow
 have hm : v[i]?.getD 0 * f ≤ 4294967295 * 4294967296 := Nat.mul_le_mul (by omega) hf
 have hx : v[i]?.getD 0 * f + c < 18446744073709551616 := by omega
 have hz : v.length < i + 1 → (v[i]?.getD 0 * f + c) / 4294967296 = 0 := fun hlt => by
  rw [List.getElem?_eq_none (by omega)]
  simp only [Option.getD_none, Nat.zero_mul, Nat.zero_add]
  exact Nat.div_eq_of_lt hc
 have ht := val_take_succ v i
 have htu := val_take_succ u i
 have htp := val_take_succ (p.set i (lessW (u[i]?.getD 0) ((v[i]?.getD 0 * f + c) % 4294967296 + b))) i
 have hts : (p.set i (lessW (u[i]?.getD 0) ((v[i]?.getD 0 * f + c) % 4294967296 + b))).take i = p.take i := List.take_set_of_le (Nat.le_refl i)
 rw [hts, List.getElem?_set, if_pos rfl, if_pos (by rw [h.len]; exact hi)] at htp
 simp only [Option.getD_some] at htp
 have hdm := Nat.div_add_mod (v[i]?.getD 0 * f + c) 4294967296
 have hml : (v[i]?.getD 0 * f + c) % 4294967296 < 4294967296 := Nat.mod_lt _ (by decide)
 have he := h.eq
 refine ⟨hx, ⟨by rw [List.length_set]; exact h.len, h.ws.set i ?_, fun j hj => ?_, ?_, ?_, hz, ?_⟩⟩
 ·unfold lessW; split <;> omega
 ·rw [get_set_other _ (by omega)]
  exact h.high j (by omega)
 ·rw [Nat.div_lt_iff_lt_mul (by decide)]; omega
 ·unfold lessB; split <;> omega
 ·rw [ht, htu, htp, Nat.mul_add f, Nat.mul_left_comm f, Nat.pow_succ]
  have key : u[i]?.getD 0 + 4294967296 * lessB (u[i]?.getD 0) ((v[i]?.getD 0 * f + c) % 4294967296 + b) = lessW (u[i]?.getD 0) ((v[i]?.getD 0 * f + c) % 4294967296 + b) + ((v[i]?.getD 0 * f + c) % 4294967296 + b) := by
   unfold lessB lessW; split <;> omega
  rw [Nat.mul_comm (v[i]?.getD 0) f] at *
  generalize lessB (u[i]?.getD 0) ((f * v[i]?.getD 0 + c) % 4294967296 + b) = b' at *
  generalize lessW (u[i]?.getD 0) ((f * v[i]?.getD 0 + c) % 4294967296 + b) = d at *
  generalize (f * v[i]?.getD 0 + c) / 4294967296 = c' at *
  generalize (f * v[i]?.getD 0 + c) % 4294967296 = m at *
  have k2 : u[i]?.getD 0 + 4294967296 * (b' + c') = d + (b + (f * v[i]?.getD 0 + c)) := by omega
  generalize hP : 4294967296 ^ i = P at *
  have k3 := congrArg (fun z => P * z) k2
  simp only [Nat.mul_add] at k3 he ⊢
  rw [Nat.mul_assoc, Nat.mul_assoc]
  omega
/-- What a multiple subtracted leaves. -/
theorem SmInv.done {u v p : List Nat} {f c b : Nat} (h : SmInv u v f u.length p c b) (hv : v.length < u.length) : (b = 0 → val u = val p + f * val v) ∧ (b ≠ 0 → val u + 4294967296 ^ u.length = val p + f * val v) := by
 have h1 := h.eq
 have h2 := h.borrow
 rw [h.none hv, List.take_length, List.take_of_length_le (show v.length ≤ u.length by omega), List.take_of_length_le (show p.length ≤ u.length by rw [h.len]; exact Nat.le_refl _)] at h1
 refine ⟨fun hb => ?_, fun hb => ?_⟩
 ·subst hb; omega
 ·obtain rfl : b = 1 := by omega
  omega

/-- What is over of a window u (one word more than v), when g v has been taken and, where that was too much, v given back. -/
theorem digit_rest {u p v : List Nat} {g b c : Nat} (hsm : SmInv u v g u.length p c b) (hu : Ws u) (hv : Ws v) (hl : u.length = v.length + 1) (hV : 0 < val v) (h1 : val u / val v ≤ g) (h2 : g ≤ val u / val v + 1) :
  (b = 0 → g = val u / val v ∧ val p = val u % val v) ∧ (b ≠ 0 → g = val u / val v + 1 ∧ val (cdig 0 (sumW p v u.length)) = val u % val v) := by
 obtain ⟨k1, k2⟩ := hsm.done (by omega)
 have hdm := Nat.div_add_mod (val u) (val v)
 have hml := Nat.mod_lt (val u) hV
 have hup := val_lt hu
 have hvp := val_lt hv
 have hpp := val_lt hsm.ws
 rw [hsm.len] at hpp
 have hq : g = val u / val v ∨ g = val u / val v + 1 := by omega
 generalize val u / val v = q at *
 generalize val u % val v = r at *
 refine ⟨fun hb => ?_, fun hb => ?_⟩
 ·have e := k1 hb
  rcases hq with rfl | rfl
  ·rw [Nat.mul_comm (val v)] at hdm
   exact ⟨rfl, by omega⟩
  ·rw [Nat.add_mul, Nat.mul_comm q] at e
   omega
 ·have e := k2 hb
  rcases hq with rfl | rfl
  ·rw [Nat.mul_comm g] at e
   omega
  ·refine ⟨rfl, ?_⟩
   have hs := cdig_val 0 (sumW p v u.length)
   have hmx : u.length = max p.length v.length := by rw [hsm.len]; omega
   have hsl : (sumW p v u.length).length = u.length := by simp [sumW]
   have hvs : val (sumW p v u.length) = val p + val v := by rw [hmx]; exact val_sumW p v
   have hlt := val_lt (cdig_Ws 0 (sumW p v u.length))
   rw [cdig_len, hsl] at hlt
   rw [hsl, hvs] at hs
   have hvu : 4294967296 ^ v.length ≤ 4294967296 ^ u.length := Nat.pow_le_pow_right (by decide) (by omega)
   rw [Nat.add_mul, Nat.mul_comm q] at e
   generalize 4294967296 ^ u.length = P at *
   generalize cout 0 (sumW p v u.length) = c' at *
   generalize val (cdig 0 (sumW p v u.length)) = x at *
   have hc1 : c' = 1 := by
    rcases Nat.lt_trichotomy c' 1 with h | h | h
    ·have : c' = 0 := by omega
     subst this
     omega
    ·exact h
    ·have : P * 2 ≤ P * c' := Nat.mul_le_mul_left P (by omega)
     omega
   subst hc1
   omega

/-- The words of x / 2^s. -/
def shr (u : List Nat) (s n : Nat) : List Nat := (List.range n).map fun i => (u[i]?.getD 0 + 4294967296 * u[i + 1]?.getD 0) / 2 ^ s % 4294967296
theorem shr_val {s : Nat} (hs : s ≤ 32) : ∀ (n : Nat) (u : List Nat), Ws u → val (shr u s n) = val u / 2 ^ s % 4294967296 ^ n
 | 0, u, _ => by simp [shr, val_nil, Nat.mod_one]
 | n + 1, u, hu => by
  have ih := shr_val hs n (u.drop 1) (hu.drop 1)
  have e : shr u s (n + 1) = ((u[0]?.getD 0 + 4294967296 * u[1]?.getD 0) / 2 ^ s % 4294967296) :: shr (u.drop 1) s n := by
   unfold shr
   rw [List.range_succ_eq_map, List.map_cons, List.map_map]
   congr 1
   refine List.map_congr_left fun i _ => ?_
   simp only [Function.comp, getD_drop]
   rw [show 1 + i = i.succ by omega, show 1 + (i + 1) = i.succ + 1 by omega]
  have e0 := val_drop_succ u 0
  have e1 := val_drop_succ u 1
  simp only [List.drop_zero, Nat.zero_add] at e0
  rw [e, val_cons, ih]
  obtain ⟨m, hm⟩ : ∃ m, 4294967296 = 2 ^ s * m := by
   refine ⟨2 ^ (32 - s), ?_⟩
   rw [← Nat.pow_add, show s + (32 - s) = 32 by omega]
  have h2 : 0 < 2 ^ s := Nat.pow_pos (by decide)
  have k1 : val u / 2 ^ s % 4294967296 = (u[0]?.getD 0 + 4294967296 * u[1]?.getD 0) / 2 ^ s % 4294967296 := by
   rw [e0, e1, Nat.mul_add, ← Nat.add_assoc]
   generalize u[0]?.getD 0 + 4294967296 * u[1]?.getD 0 = x
   generalize val (u.drop (1 + 1)) = y
   have : 4294967296 * (4294967296 * y) = 2 ^ s * (m * (4294967296 * y)) := by rw [← Nat.mul_assoc (2 ^ s), ← hm]
   rw [this, Nat.add_mul_div_left _ _ h2, ← Nat.mul_assoc, Nat.mul_comm m, Nat.mul_assoc, Nat.add_mul_mod_self_left]
  have k2 : val u / 2 ^ s / 4294967296 = val (u.drop 1) / 2 ^ s := by
   rw [Nat.div_div_eq_div_mul, Nat.mul_comm, ← Nat.div_div_eq_div_mul]
   congr 1
   have := hu.get 0
   omega
  rw [Nat.pow_succ, Nat.mul_comm (4294967296 ^ n), Nat.mod_mul, k1, k2]

end Wd
end Go.Proofs.YtodkhjihkkmplaaGreat

namespace Go.Proofs.YtodkhjihkkmplaaGreat
set_option linter.unusedVariables false
set_option linter.unusedSimpArgs false
open Go.RowKit
open Wd

theorem sg_mul (a b : Bool) (m n : Nat) : sg (a != b) (m * n) = sg a m * sg b n := by
 unfold sg
 cases a <;> cases b <;> simp [Int.mul_neg, Int.neg_mul]

theorem len_one {m : Nat} (h : (digs m).length ≤ 1) : m < 4294967296 := by
 have := digs_len_le.1 h; simpa using this

theorem small_int (neg : Bool) (z : Int) (w : World) (h0 : 0 ≤ z) (hn : z < 18446744073709551616) :
  Calls Tryz.prog 85 #[.bool neg, .int .u64 z] w (RetZ w (sg neg z.toNat)) := by
 obtain ⟨n, rfl⟩ := Int.eq_ofNat_of_zero_le h0
 exact small_any neg n w (by omega)

theorem low_bel (A : Option Addr) (n c : Nat) (l : List Nat) (w : World) (h : Wat w A n l) (hn : n ≤ 2) :
  Calls Tryz.prog 86 #[.slice A n c] w fun e w' => e = .returned (.int .u64 (val l : Nat)) ∧ Below w.heap.size w w' :=
 (low_any A n c l w h hn).mono fun _ _ ⟨he, k, hk⟩ => ⟨he, by rw [hk]; exact belowN _ _⟩

set_option maxHeartbeats 4000000 in
theorem mul_any (neg neg' : Bool) (A A' : Option Addr) (n n' c c' : Nat) (l l' : List Nat) (w : World) (h : Wat w A n l) (h' : Wat w A' n' l') (hnc : n ≤ c) (hnc' : n' ≤ c') (hm : n ≤ 100000000000) (hm' : n' ≤ 100000000000) :
  Calls Tryz.prog 56 #[.agg #[.bool neg, .slice A n c], .agg #[.bool neg', .slice A' n' c']] w (RetZ w (sg neg (val l) * sg neg' (val l'))) := by
 rw [← sg_mul]
 go_enter Tryz.func56, Tryz.ntmps56
 go_wp2_with fail
 obtain ⟨hB0, hB1, hB2, hBW, hsz⟩ := pre3 w 29 #[.bool neg, .slice A n c] 29 #[.bool neg', .slice A' n' c'] 29 #[.bool false, .slice none 0 0]
 generalize ((w.alloc (.cells #[.bool neg, .slice A n c] 29)).alloc (.cells #[.bool neg', .slice A' n' c'] 29)).alloc (.cells #[.bool false, .slice none 0 0] 29) = W at *
 have HSZ := Lib.hid hsz
 clear hsz
 have s4 := RS.start hB2
 have hw : ∀ w', RS (w.heap.size + 1 + 1) 29 W w' → Wat w' A n l ∧ Wat w' A' n' l' := fun w' hk => ⟨h.below (hBW.trans (hk.1.mono (by omega))), h'.below (hBW.trans (hk.1.mono (by omega)))⟩
 have HW := Lib.hid hw
 have hle := h.trim_le
 have hle' := h'.trim_le
 clear hw
 have T1 := Lib.hid (fun W1 (hb : RS (w.heap.size + 1 + 1) 29 W W1) => trim_any A n c l W1 (HW.out _ hb).1 hnc (by omega))
 have T2 := Lib.hid (fun W1 (hb : RS (w.heap.size + 1 + 1) 29 W W1) => trim_any A' n' c' l' W1 (HW.out _ hb).2 hnc' (by omega))
 obtain ⟨c0, c1, -, -⟩ := hB0.two
 obtain ⟨c2, c3, -, -⟩ := hB1.two
 go_quiet ((first | (go_at_call_of 83 (Value.slice A n c); exact quiet_left (T1.out _ (s4.drewN _))) | (go_at_call_of 83 (Value.slice A' n' c'); exact quiet_left (T2.out _ (s4.drewN _)))))
 have s5 := s4.drewN nq
 clear T1 T2 s4 c0 c1 c2 c3
 have hT := fun W1 (hb : RS (w.heap.size + 1 + 1) 29 W W1) => (HW.out _ hb).1.trim
 have hT' := fun W1 (hb : RS (w.heap.size + 1 + 1) 29 W W1) => (HW.out _ hb).2.trim
 have HT := Lib.hid hT
 have HT' := Lib.hid hT'
 have hv1 := @len_one (val l)
 have hv2 := @len_one (val l')
 clear hT hT' HW
 have hvd := val_digs (val l)
 have hvd' := val_digs (val l')
 have HVD := Lib.hid hvd
 have HVD' := Lib.hid hvd'
 clear hvd hvd'
 generalize val l = m at *
 generalize val l' = m' at *
 by_cases hb : (digs m).length ≤ 1 ∧ (digs m').length ≤ 1
 ·obtain ⟨hb1, hb2⟩ := hb
  have hv1 := hv1 hb1
  have hv2 := hv2 hb2
  generalize digs m = D at *
  generalize digs m' = D' at *
  generalize D.length = k at *
  generalize D'.length = k' at *
  have hp : m * m' < 18446744073709551616 := by
   have : m * m' ≤ 4294967295 * 4294967295 := Nat.mul_le_mul (by omega) (by omega)
   omega
  have hmm : (m : Int) * (m' : Int) = ((m * m' : Nat) : Int) := by omega
  have hw1 : IntKind.u64.wrap ((m : Int) * (m' : Int)) = (m : Int) * (m' : Int) := by
   rw [IntKind.wrap_u64, hmm]; omega
  have HMM := Lib.hid hmm
  have HP := Lib.hid hp
  clear hmm hp hv1 hv2
  go_wp2_with fail
  have hS : ∀ w', RS (w.heap.size + 1 + 1) 29 W w' → (w'.cell? ⟨w.heap.size, 0, none⟩ = some (.bool neg) ∧ w'.cell? ⟨w.heap.size, 1, none⟩ = some (.slice A n c) ∧ w'.cell? ⟨w.heap.size + 1, 0, none⟩ = some (.bool neg') ∧ w'.cell? ⟨w.heap.size + 1, 1, none⟩ = some (.slice A' n' c')) ∧ RS (w.heap.size + 1 + 1) 29 W w' := fun w' hk => ⟨⟨(hk.blk hB0 (by omega)).cell 0, (hk.blk hB0 (by omega)).cell 1, (hk.blk hB1 (by omega)).cell 0, (hk.blk hB1 (by omega)).cell 1⟩, hk⟩
  have HS := Lib.hid hS
  clear hS
  clear hB2
  go_region_held3 (fun w' => (w'.cell? ⟨w.heap.size, 0, none⟩ = some (.bool neg) ∧ w'.cell? ⟨w.heap.size, 1, none⟩ = some (.slice A n c) ∧ w'.cell? ⟨w.heap.size + 1, 0, none⟩ = some (.bool neg') ∧ w'.cell? ⟨w.heap.size + 1, 1, none⟩ = some (.slice A' n' c')) ∧ RS (w.heap.size + 1 + 1) 29 W w')
   (first | (with_reducible refine HS.out _ ?_; with_reducible assumption) | (with_reducible refine HS.out _ (RS.drew ?_); with_reducible assumption) | (with_reducible refine' HS.out _ (RS.drew (And.right ?_)); rotate_left; with_reducible assumption) | (with_reducible refine' HS.out _ (RS.set (And.right ?_) _ _); rotate_left; with_reducible assumption))
   (first
    | (go_at_call_of 86 (Value.slice A k c); have hk := And.right ‹_ ∧ RS (w.heap.size + 1 + 1) 29 W _›; refine (low_bel A _ c _ _ (HT.out _ hk) (by omega)).mono ?_; rw [HVD.out]; rintro e w1 ⟨rfl, hb1⟩; have hr1 := hk.call hb1)
    | (go_at_call_of 86 (Value.slice A' k' c'); have hk := And.right ‹_ ∧ RS (w.heap.size + 1 + 1) 29 W _›; refine (low_bel A' _ c' _ _ (HT'.out _ hk) (by omega)).mono ?_; rw [HVD'.out]; rintro e w2 ⟨rfl, hb2⟩; have hr2 := hk.call hb2)
    | (go_at_call 85; have hk := And.right ‹_ ∧ RS (w.heap.size + 1 + 1) 29 W _›; refine (small_int (neg != neg') _ _ (by rw [HMM.out]; omega) (by rw [HMM.out]; have := HP.out; omega)).mono ?_; rw [HMM.out, Int.toNat_natCast]; rintro e w3 ⟨A3, k3, c3, rfl, hk3, hW3, hF3, hb3⟩; have hz3 := hk.1.size; have hr3 := hk.call hb3; obtain ⟨_, _, c0, c1, f0, f1⟩ := hr3.two))
  have hfin := retZ_close hBW (by omega) (by have := HSZ.out; omega) hr3 hk3 hW3 hF3
  obtain ⟨d0, d1, -, -⟩ := (hr3.done (.bool (decide (sg (neg != neg') (m * m') < 0))) (.slice A3 k3 c3)).two
  have HF := Lib.hid hfin
  clear hfin
  go_wp2
  refine bodyPost_ret (v := .agg #[.bool (decide (sg (neg != neg') (m * m') < 0)), .slice A3 k3 c3]) ?_ rfl HF.out
  simp [results, Tryz.results56, go_sem, d0, d1]
 ·have hb' : ¬ ((digs m).length ≤ 1) ∨ ((digs m).length ≤ 1 ∧ ¬ ((digs m').length ≤ 1)) := by omega
  clear hb hv1 hv2
  have hmu := fun W1 (hb : RS (w.heap.size + 1 + 1) 29 W W1) => mulWords_any A A' _ _ c c' _ _ W1 (HT.out _ hb) (HT'.out _ hb) (by omega) (by omega)
  rw [HVD.out, HVD'.out] at hmu
  have HMU := Lib.hid hmu
  clear hmu
  generalize digs m = D at *
  generalize digs m' = D' at *
  generalize D.length = k at *
  generalize D'.length = k' at *
  rcases hb' with hb1 | ⟨hb1, hb2⟩
  all_goals
   go_wp2_with fail
   have hS : ∀ w', RS (w.heap.size + 1 + 1) 29 W w' → (w'.cell? ⟨w.heap.size, 0, none⟩ = some (.bool neg) ∧ w'.cell? ⟨w.heap.size, 1, none⟩ = some (.slice A n c) ∧ w'.cell? ⟨w.heap.size + 1, 0, none⟩ = some (.bool neg') ∧ w'.cell? ⟨w.heap.size + 1, 1, none⟩ = some (.slice A' n' c')) ∧ RS (w.heap.size + 1 + 1) 29 W w' := fun w' hk => ⟨⟨(hk.blk hB0 (by omega)).cell 0, (hk.blk hB0 (by omega)).cell 1, (hk.blk hB1 (by omega)).cell 0, (hk.blk hB1 (by omega)).cell 1⟩, hk⟩
   have HS := Lib.hid hS
   clear hS
   clear hB2
   go_region_held3 (fun w' => (w'.cell? ⟨w.heap.size, 0, none⟩ = some (.bool neg) ∧ w'.cell? ⟨w.heap.size, 1, none⟩ = some (.slice A n c) ∧ w'.cell? ⟨w.heap.size + 1, 0, none⟩ = some (.bool neg') ∧ w'.cell? ⟨w.heap.size + 1, 1, none⟩ = some (.slice A' n' c')) ∧ RS (w.heap.size + 1 + 1) 29 W w')
    (first | (with_reducible refine HS.out _ ?_; with_reducible assumption) | (with_reducible refine HS.out _ (RS.drew ?_); with_reducible assumption) | (with_reducible refine' HS.out _ (RS.drew (And.right ?_)); rotate_left; with_reducible assumption) | (with_reducible refine' HS.out _ (RS.set (And.right ?_) _ _); rotate_left; with_reducible assumption))
    (first
     | (go_at_call 88; have hk := And.right ‹_ ∧ RS (w.heap.size + 1 + 1) 29 W _›; refine (HMU.out _ hk).mono ?_; rintro e w1 ⟨p1, ⟨A1, c1, rfl, hk1, hcm1, hW1, hF1, hb1⟩, hp1⟩; have hz1 := hk.1.size; have hr1 := hk.call hb1; have HP := Lib.hid hp1; clear hp1)
     | (go_at_call 87; have hk := And.right ‹_ ∧ RS (w.heap.size + 1 + 1) 29 W _›; refine (build_any (neg != neg') A1 _ c1 _ _ hW1 hk1 (by omega)).mono ?_; intro e w2 hr; have hr := RetZ.of_in hb1 hW1 hF1 hk1 hr; rw [HP.out] at hr; obtain ⟨A2, k2, c2, rfl, hk2, hW2, hF2, hb2⟩ := hr; have hr2 := RS.call ‹RS _ _ W (World.drew _)› hb2; obtain ⟨_, _, c0, c1, f0, f1⟩ := hr2.two))
   have hfin := retZ_close hBW (by omega) (by have := HSZ.out; omega) hr2 hk2 hW2 hF2
   obtain ⟨d0, d1, -, -⟩ := (hr2.done (.bool (decide (sg (neg != neg') (m * m') < 0))) (.slice A2 k2 c2)).two
   have HF := Lib.hid hfin
   clear hfin hr
   go_wp2
   refine bodyPost_ret (v := .agg #[.bool (decide (sg (neg != neg') (m * m') < 0)), .slice A2 k2 c2]) ?_ rfl HF.out
   simp [results, Tryz.results56, go_sem, d0, d1]

end Go.Proofs.YtodkhjihkkmplaaGreat

namespace Go.Proofs.YtodkhjihkkmplaaGreat
set_option linter.unusedVariables false
set_option linter.unusedSimpArgs false
open Go.RowKit
open Wd

/-- Quotient and remainder, as words in new memory. -/
def RetDiv (w : World) (x y : Nat) (e : Ending) (w' : World) : Prop :=
 ∃ A1 n1 c1 q A2 n2 c2 r, e = .returned (.tuple #[.slice A1 n1 c1, .slice A2 n2 c2]) ∧ n1 ≤ c1 ∧ n2 ≤ c2 ∧ n1 ≤ 100000000000 ∧ n2 ≤ 100000000000 ∧ Wat w' A1 n1 q ∧ Wat w' A2 n2 r ∧
  Fresh w.heap.size w' A1 n1 ∧ Fresh w.heap.size w' A2 n2 ∧ val q = x / y ∧ val r = x % y ∧ Below w.heap.size w w'

/-- divWords divides, for dividends below M. -/
def DivW (M : Nat) : Prop := ∀ (A A' : Option Addr) (n n' c c' x y : Nat) (w : World), Wat w A n (digs x) → Wat w A' n' (digs y) → x < M → y ≠ 0 → n ≤ 10000000000 → n' ≤ 10000000000 →
 Calls Tryz.prog 139 #[.slice A n c, .slice A' n' c'] w (RetDiv w x y)

theorem compareWords_bel (A A' : Option Addr) (n n' c c' : Nat) (x y : Nat) (w : World) (h : Wat w A n (digs x)) (h' : Wat w A' n' (digs y)) (hm : n ≤ 9223372036854775807) (hm' : n' ≤ 9223372036854775807) :
  Calls Tryz.prog 84 #[.slice A n c, .slice A' n' c'] w fun e w' => e = .returned (.int .i64 (cmpI x y)) ∧ Below w.heap.size w w' :=
 (compareWords_any A A' n n' c c' x y w h h' hm hm').mono fun _ _ ⟨he, k, hk⟩ => ⟨he, by rw [hk]; exact belowN _ _⟩

theorem field_zw (a b : Value) (w : World) : (Instr.field 29 (.agg #[a, b]) 1).run Tryz.prog w = .ok b w := by kernel_rfl


set_option maxHeartbeats 1000000 in
theorem divWords_less (A A' : Option Addr) (n n' c c' x y : Nat) (w : World) (h : Wat w A n (digs x)) (h' : Wat w A' n' (digs y)) (hxy : x < y) (hn : n ≤ 10000000000) (hn' : n' ≤ 10000000000) :
  Calls Tryz.prog 139 #[.slice A n c, .slice A' n' c'] w (RetDiv w x y) := by
 have hc : cmpI x y = -1 := cmpI_lt (by omega)
 have T := compareWords_bel A A' n n' c c' x y w h h' (by omega) (by omega)
 rw [hc] at T
 have T := Lib.hid T
 have hq : x / y = 0 := Nat.div_eq_of_lt hxy
 have hr : x % y = x := Nat.mod_eq_of_lt hxy
 have HQ := Lib.hid hq
 have HR := Lib.hid hr
 clear hc hq hr hxy
 go_enter Tryz.func139, Tryz.ntmps139
 go_wp2_with fail
 refine (T.out).mono ?_
 rintro e w1 ⟨rfl, hb1⟩
 go_wp2_with fail
 refine (clone_any A n c (digs x) w1 (h.below hb1) (by omega)).mono ?_
 rintro e w2 ⟨A2, c2, rfl, hk2, hcm2, hW2, hF2, hb2⟩
 go_wp2
 go_ret2
 exact ⟨none, 0, 0, [], A2, n, c2, digs x, rfl, Nat.le_refl _, hk2, by omega, by omega, Wat.nil, hW2, Fresh.nil, hF2.mono hb1.size, by rw [HQ.out]; rfl, by rw [HR.out, val_digs], hb1.trans (hb2.mono hb1.size)⟩

set_option maxRecDepth 100000 in
set_option maxHeartbeats 2000000 in
theorem divWords_two (A A' : Option Addr) (n n' c c' x y : Nat) (w : World) (h : Wat w A n (digs x)) (h' : Wat w A' n' (digs y)) (hxy : y ≤ x) (hx : x < 18446744073709551616) (hy : y ≠ 0) (hn : n ≤ 10000000000) (hn' : n' ≤ 10000000000) :
  Calls Tryz.prog 139 #[.slice A n c, .slice A' n' c'] w (RetDiv w x y) := by
 have hc : 0 ≤ cmpI x y := by
  rcases Nat.lt_or_ge y x with h1 | h1
  ·rw [cmpI_gt (by omega)]; decide
  ·rw [cmpI_eq (by omega)]; decide
 have T := compareWords_bel A A' n n' c c' x y w h h' (by omega) (by omega)
 generalize cmpI x y = cc at *
 have T := Lib.hid T
 have hl2 : n ≤ 2 := by rw [← h.1]; exact len_le_two hx
 have hl2' : n' ≤ 2 := by rw [← h'.1]; exact len_le_two (by omega)
 have hq : IntKind.u64.wrap ((x : Int).tdiv (y : Int)) = ((x / y : Nat) : Int) := by
  rw [IntWalk.u64_quo _ _ ⟨by omega, by omega, by omega⟩]; omega
 have hr : (x : Int).tmod (y : Int) = ((x % y : Nat) : Int) := by rw [IntWalk.rem_in _ _ (by omega)]; omega
 have hq' : IntKind.u64.wrap ((x : Int) / (y : Int)) = ((x / y : Nat) : Int) := by
  have e : (x : Int) / (y : Int) = ((x / y : Nat) : Int) := by omega
  have := Nat.lt_of_le_of_lt (Nat.div_le_self x y) hx
  rw [e, IntKind.wrap_u64]
  generalize x / y = q at *
  clear hq
  omega
 have hr' : (x : Int) % (y : Int) = ((x % y : Nat) : Int) := by omega
 have hy0 : ((y : Int) == 0) = false := by simp; exact hy
 have hqb : x / y < 18446744073709551616 := Nat.lt_of_le_of_lt (Nat.div_le_self _ _) hx
 have hrb : x % y < 18446744073709551616 := Nat.lt_of_le_of_lt (Nat.mod_le _ _) hx
 have HQB := Lib.hid hqb
 have HRB := Lib.hid hrb
 have HV1 := Lib.hid (val_digs x)
 have HV2 := Lib.hid (val_digs y)
 clear hqb hrb hxy hx
 have hfld := field_zw
 generalize hqe : x / y = q at *
 generalize hre : x % y = r at *
 have HQE := Lib.hid hqe
 have HRE := Lib.hid hre
 clear hqe hre
 go_enter Tryz.func139, Tryz.ntmps139
 go_wp2_with fail
 refine (T.out).mono ?_
 rintro e w1 ⟨rfl, hb1⟩
 go_wp2_with fail
 refine (low_bel A n c _ w1 (h.below hb1) hl2).mono ?_
 rw [HV1.out]
 rintro e w2 ⟨rfl, hb2⟩
 go_wp2_with fail
 have hb12 := hb1.trans (hb2.mono hb1.size)
 refine (low_bel A' n' c' _ w2 (h'.below hb12) hl2').mono ?_
 rw [HV2.out]
 rintro e W ⟨rfl, hb3⟩
 have hbW : Below w.heap.size w W := hb12.trans (hb3.mono hb12.size)
 clear hb1 hb2 hb12 hb3 T
 go_wp2_with fail
 have s4 := Kp.refl W
 have hS : ∀ w', Kp W w' → (True) ∧ Kp W w' := fun w' hk => ⟨⟨⟩, hk⟩
 have HS := Lib.hid hS
 clear hS
 go_region_held3 (fun w' => (True) ∧ Kp W w')
  (first | (with_reducible refine HS.out _ ?_; with_reducible assumption) | (with_reducible refine HS.out _ (Kp.drew ?_); with_reducible assumption) | (with_reducible refine' HS.out _ (Kp.drew (And.right ?_)); rotate_left; with_reducible assumption))
  (first
   | (go_at_call_of 85 (Value.int .u64 (q : Int)); have hk := And.right ‹_ ∧ Kp W _›; refine (small_any false q _ HQB.out).mono ?_; rintro e w3 ⟨A3, k3, c3, rfl, hk3, hW3, hF3, hb3⟩; have hz3 := Below.size hk; have hr3 := hk.trans hb3)
   | (go_at_call_of 85 (Value.int .u64 (r : Int)); have hk := And.right ‹_ ∧ Kp W _›; refine (small_any false r _ HRB.out).mono ?_; rintro e w4 ⟨A4, k4, c4, rfl, hk4, hW4, hF4, hb4⟩; have hz4 := Below.size hk; have hr4 := hk.trans hb4))
 have h3 := hW3.1
 have h4 := hW4.1
 rw [sg_natAbs] at hW3 hW4 h3 h4
 have b3 : k3 ≤ 2 := by rw [← h3]; exact len_le_two HQB.out
 have b4 : k4 ≤ 2 := by rw [← h4]; exact len_le_two HRB.out
 have hz5 := HS
 have hfin : RetDiv w x y (.returned (.tuple #[.slice A3 k3 c3, .slice A4 k4 c4])) w4 :=
  ⟨A3, k3, c3, _, A4, k4, c4, _, rfl, hk3, hk4, by omega, by omega, hW3.below hb4, hW4, (hF3.keep hW3 hb4).mono hbW.size, hF4.mono (Nat.le_trans hbW.size hz4), by rw [val_digs, HQE.out], by rw [val_digs, HRE.out], hbW.trans (Below.mono hr4 hbW.size)⟩
 have HF := Lib.hid hfin
 clear hfin h3 h4 hz5
 go_wp2
 go_ret2
 exact HF.out


/-- The number that a slice of words reads as; for a loop's measure. -/
def readW (w : World) : Value → Nat
 | .slice (some a) n _ => val ((List.range n).map fun j => match w.cell? ⟨a.block, a.off + j, none⟩ with | some (.int _ z) => z.toNat | _ => 0)
 | _ => 0
theorem Wat.read {w : World} {A : Option Addr} {n : Nat} {l : List Nat} (h : Wat w A n l) (c : Nat) : readW w (.slice A n c) = val l := by
 rcases Nat.eq_zero_or_pos n with h0 | h0
 ·subst h0
  obtain rfl : l = [] := List.eq_nil_of_length_eq_zero h.1
  cases A <;> rfl
 ·obtain ⟨b, o, rfl, hb, hc⟩ := h.2.2 (by omega)
  show val _ = val l
  congr 1
  apply List.ext_getElem
  ·simp [h.1]
  ·intro j h1 h2
   simp only [List.getElem_map, List.getElem_range]
   have hj : j < n := by simpa using h1
   rw [hc j hj, List.getElem?_eq_getElem h2]
   rfl

end Go.Proofs.YtodkhjihkkmplaaGreat
