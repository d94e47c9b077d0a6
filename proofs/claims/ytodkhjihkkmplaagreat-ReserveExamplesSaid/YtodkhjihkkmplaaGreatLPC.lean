/-
Plain facts on the schoolbook product of two lists of words. No program occurs here; no conditions. Plain law of words in base 2^32: carried sums, differences, division by one word, the digit that a long division guesses. No statement of the seat is proved here; no conditions beyond those of each theorem.
-/
import Derived.Test.YtodkhjihkkmplaaGreatLPA
namespace Go.Proofs.YtodkhjihkkmplaaGreat
set_option linter.unusedVariables false
set_option linter.unusedSimpArgs false
namespace Wd

theorem val_set {p : List Nat} {j : Nat} (d : Nat) (hj : j < p.length) : val (p.set j d) + 4294967296 ^ j * p[j]?.getD 0 = val p + 4294967296 ^ j * d := by
 induction p generalizing j with
 | nil => simp at hj
 | cons e p ih =>
  cases j with
  | zero => simp [val]; omega
  | succ j =>
   have h := ih (j := j) (by simpa using hj)
   simp only [List.set_cons_succ, val_cons, List.getElem?_cons_succ, Nat.pow_succ]
   grind
theorem Ws.set {p : List Nat} (h : Ws p) (j : Nat) {d : Nat} (hd : d < 4294967296) : Ws (p.set j d) := by
 intro x hx
 rcases List.mem_or_eq_of_mem_set hx with h1 | h1
 ·exact h x h1
 ·subst h1; exact hd
theorem get_set_other {p : List Nat} {i j : Nat} (d : Nat) (h : i ≠ j) : (p.set i d)[j]?.getD 0 = p[j]?.getD 0 := by
 rw [List.getElem?_set_ne h]

/-- Where the product stands after k words of b have been multiplied by x and added from word i on. -/
structure MInv (p0 : List Nat) (x : Nat) (b : List Nat) (i k : Nat) (p : List Nat) (c : Nat) : Prop where
 len : p.length = p0.length
 ws : Ws p
 cl : c < 4294967296
 eq : val p + c * 4294967296 ^ (i + k) = val p0 + x * val (b.take k) * 4294967296 ^ i
 rest : ∀ j, i + k ≤ j → p[j]?.getD 0 = p0[j]?.getD 0

theorem MInv.start {p0 : List Nat} (x : Nat) (b : List Nat) (i : Nat) (h : Ws p0) : MInv p0 x b i 0 p0 0 :=
 ⟨rfl, h, by decide, by simp [val], fun _ _ => rfl⟩

theorem MInv.bound {p0 b p : List Nat} {x i k c : Nat} (h : MInv p0 x b i k p c) (hx : x < 4294967296) (hb : Ws b) :
  p[i + k]?.getD 0 + x * b[k]?.getD 0 + c < 18446744073709551616 := by
 have h1 := h.ws.get (i + k)
 have h2 := hb.get k
 have h3 := h.cl
 have h4 : x * b[k]?.getD 0 ≤ 4294967295 * 4294967295 := Nat.mul_le_mul (by omega) (by omega)
 omega

theorem MInv.step {p0 b p : List Nat} {x i k c : Nat} (h : MInv p0 x b i k p c) (hx : x < 4294967296) (hb : Ws b) (hk : k < b.length) (hl : i + k < p0.length) :
  MInv p0 x b i (k + 1) (p.set (i + k) ((p[i + k]?.getD 0 + x * b[k]?.getD 0 + c) % 4294967296)) ((p[i + k]?.getD 0 + x * b[k]?.getD 0 + c) / 4294967296) := by
 have hbd := h.bound hx hb
 have hset := val_set (p := p) (j := i + k) ((p[i + k]?.getD 0 + x * b[k]?.getD 0 + c) % 4294967296) (by rw [h.len]; exact hl)
 have he := h.eq
 refine ⟨by rw [List.length_set]; exact h.len, h.ws.set _ (Nat.mod_lt _ (by decide)), ?_, ?_, ?_⟩
 ·omega
 ·have ht : b.take (k + 1) = b.take k ++ [b[k]?.getD 0] := by
   rw [List.take_succ_eq_append_getElem hk, List.getElem?_eq_getElem hk]; rfl
  rw [ht, val_snoc, List.length_take, Nat.min_eq_left (by omega)]
  rw [show i + (k + 1) = (i + k) + 1 by omega, Nat.pow_succ]
  rw [show 4294967296 ^ (i + k) = 4294967296 ^ i * 4294967296 ^ k from Nat.pow_add ..] at *
  generalize p[i + k]?.getD 0 = q at *
  generalize b[k]?.getD 0 = y at *
  generalize hT : q + x * y + c = T at *
  have hdm := Nat.div_add_mod T 4294967296
  generalize T / 4294967296 = D at *
  generalize T % 4294967296 = R at *
  generalize val (p.set (i + k) R) = V at *
  generalize val p = U at *
  generalize val p0 = U0 at *
  generalize val (b.take k) = Y at *
  generalize 4294967296 ^ i = M at *
  generalize 4294967296 ^ k = N at *
  subst hT
  have e1 : M * N * (4294967296 * D + R) = M * N * (q + x * y + c) := by rw [hdm]
  grind
 ·intro j hj
  rw [get_set_other _ (by omega)]
  exact h.rest j (by omega)

/-- After all words of b the carry goes into the next word. -/
theorem MInv.last {p0 b p : List Nat} {x i c : Nat} (h : MInv p0 x b i b.length p c) (hl : i + b.length < p0.length) (hz : p0[i + b.length]?.getD 0 = 0) :
  Ws (p.set (i + b.length) c) ∧ (p.set (i + b.length) c).length = p0.length ∧ val (p.set (i + b.length) c) = val p0 + x * val b * 4294967296 ^ i ∧ ∀ j, i + 1 + b.length ≤ j → (p.set (i + b.length) c)[j]?.getD 0 = p0[j]?.getD 0 := by
 have hset := val_set (p := p) (j := i + b.length) c (by rw [h.len]; exact hl)
 have h0 : p[i + b.length]?.getD 0 = 0 := by rw [h.rest _ (Nat.le_refl _), hz]
 have he := h.eq
 rw [List.take_length] at he
 rw [h0] at hset
 refine ⟨h.ws.set _ h.cl, by rw [List.length_set]; exact h.len, ?_, fun j hj => ?_⟩
 ·grind
 ·rw [get_set_other _ (by omega)]
  exact h.rest j (by omega)

/-- Where the product stands after i words of a. -/
structure OInv (a b : List Nat) (i : Nat) (p : List Nat) : Prop where
 len : p.length = a.length + b.length
 ws : Ws p
 eq : val p = val (a.take i) * val b
 rest : ∀ j, i + b.length ≤ j → p[j]?.getD 0 = 0

theorem OInv.start (a b : List Nat) : OInv a b 0 (List.replicate (a.length + b.length) 0) :=
 ⟨by simp, fun d hd => by rw [List.eq_of_mem_replicate hd]; decide, by rw [val_replicate_zero]; simp [val], fun j _ => by
  rw [List.getElem?_replicate]; split <;> rfl⟩

theorem OInv.step {a b p0 p : List Nat} {i c : Nat} (h : OInv a b i p0) (hi : i < a.length) (hm : MInv p0 (a[i]?.getD 0) b i b.length p c) : OInv a b (i + 1) (p.set (i + b.length) c) := by
 obtain ⟨h1, h2, h3, h4⟩ := hm.last (by rw [h.len]; omega) (h.rest _ (Nat.le_refl _))
 refine ⟨h2.trans h.len, h1, ?_, fun j hj => ?_⟩
 ·rw [h3, h.eq]
  have ht : a.take (i + 1) = a.take i ++ [a[i]?.getD 0] := by
   rw [List.take_succ_eq_append_getElem hi, List.getElem?_eq_getElem hi]; rfl
  rw [ht, val_snoc, List.length_take, Nat.min_eq_left (by omega)]
  grind
 ·rw [h4 j hj]; exact h.rest j (by omega)

theorem OInv.done {a b p : List Nat} (h : OInv a b a.length p) : val p = val a * val b := by
 rw [h.eq, List.take_length]

end Wd
end Go.Proofs.YtodkhjihkkmplaaGreat

namespace Go.Proofs.YtodkhjihkkmplaaGreat
namespace Wd
set_option linter.unusedVariables false
set_option linter.unusedSimpArgs false

/-- The words of numbers with a carry c, and the carry behind them. -/
def cdig : Nat → List Nat → List Nat
 | _, [] => []
 | c, t :: ts => (t + c) % 4294967296 :: cdig ((t + c) / 4294967296) ts
def cout : Nat → List Nat → Nat
 | c, [] => c
 | c, t :: ts => cout ((t + c) / 4294967296) ts
theorem cdig_snoc : ∀ (c : Nat) (ts : List Nat) (t : Nat), cdig c (ts ++ [t]) = cdig c ts ++ [(t + cout c ts) % 4294967296]
 | _, [], _ => rfl
 | c, s :: ts, t => by rw [List.cons_append, cdig, cdig_snoc, cdig, cout, List.cons_append]
theorem cout_snoc : ∀ (c : Nat) (ts : List Nat) (t : Nat), cout c (ts ++ [t]) = (t + cout c ts) / 4294967296
 | _, [], _ => rfl
 | c, s :: ts, t => by rw [List.cons_append, cout, cout_snoc, cout]
theorem cdig_len : ∀ (c : Nat) (ts : List Nat), (cdig c ts).length = ts.length
 | _, [] => rfl
 | c, t :: ts => by rw [cdig, List.length_cons, cdig_len, List.length_cons]
theorem cdig_Ws : ∀ (c : Nat) (ts : List Nat), Ws (cdig c ts)
 | _, [] => Ws.nil
 | c, t :: ts => by rw [cdig]; exact Ws.cons (Nat.mod_lt _ (by decide)) (cdig_Ws _ _)
theorem cdig_val : ∀ (c : Nat) (ts : List Nat), val (cdig c ts) + 4294967296 ^ ts.length * cout c ts = c + val ts
 | c, [] => by simp [cdig, cout, val_nil]
 | c, t :: ts => by
  have ih := cdig_val ((t + c) / 4294967296) ts
  have hd := Nat.div_add_mod (t + c) 4294967296
  rw [cdig, cout, val_cons, val_cons, List.length_cons, Nat.pow_succ, Nat.mul_comm (4294967296 ^ ts.length) 4294967296, Nat.mul_assoc]
  have e : 4294967296 * val (cdig ((t + c) / 4294967296) ts) + 4294967296 * (4294967296 ^ ts.length * cout ((t + c) / 4294967296) ts) = 4294967296 * ((t + c) / 4294967296) + 4294967296 * val ts := by
   rw [← Nat.mul_add, ih, Nat.mul_add]
  omega
theorem cout_lt {K : Nat} (hK : 0 < K) : ∀ {c : Nat} {ts : List Nat}, c < K → (∀ t ∈ ts, t ≤ 4294967296 * K - K) → cout c ts < K
 | _, [], hc, _ => hc
 | c, t :: ts, hc, h => by
  rw [cout]
  refine cout_lt hK ?_ fun s hs => h s (List.mem_cons_of_mem _ hs)
  have := h t (List.mem_cons_self ..)
  rw [Nat.div_lt_iff_lt_mul (by decide), Nat.mul_comm]
  omega
theorem val_range_get : ∀ (l : List Nat) (m : Nat), l.length ≤ m → val ((List.range m).map fun i => l[i]?.getD 0) = val l
 | [], m, _ => by
  have e : (List.range m).map (fun i => ([] : List Nat)[i]?.getD 0) = List.replicate m 0 := by
   apply List.ext_getElem (by simp)
   intro i h1 h2
   simp
  rw [e, val_replicate_zero, val_nil]
 | d :: l, 0, h => by simp at h
 | d :: l, m + 1, h => by
  rw [List.range_succ_eq_map, List.map_cons, List.map_map, val_cons, val_cons]
  have ih := val_range_get l m (by simpa using h)
  have e : (List.range m).map ((fun i => (d :: l)[i]?.getD 0) ∘ Nat.succ) = (List.range m).map fun i => l[i]?.getD 0 := List.map_congr_left fun i _ => by simp
  rw [e, ih]
  rfl
theorem val_map_add {α : Type} (f g : α → Nat) : ∀ l : List α, val (l.map fun i => f i + g i) = val (l.map f) + val (l.map g)
 | [] => rfl
 | x :: l => by rw [List.map_cons, val_cons, val_map_add f g l, List.map_cons, val_cons, List.map_cons, val_cons, Nat.mul_add]; omega
theorem val_map_mul {α : Type} (f : α → Nat) (k : Nat) : ∀ l : List α, val (l.map fun i => f i * k) = val (l.map f) * k
 | [] => by simp [val_nil]
 | x :: l => by rw [List.map_cons, val_cons, val_map_mul f k l, List.map_cons, val_cons, Nat.add_mul, Nat.mul_assoc]
/-- The sums of words at the same place. -/
def sumW (a b : List Nat) (m : Nat) : List Nat := (List.range m).map fun i => a[i]?.getD 0 + b[i]?.getD 0
theorem val_sumW (a b : List Nat) : val (sumW a b (max a.length b.length)) = val a + val b := by
 unfold sumW
 rw [val_map_add, val_range_get a _ (by omega), val_range_get b _ (by omega)]
/-- The words of a with the complements of those of b. -/
def difW (a b : List Nat) (m : Nat) : List Nat := (List.range m).map fun i => a[i]?.getD 0 + (4294967295 - b[i]?.getD 0)
theorem val_const (m : Nat) : val ((List.range m).map fun _ => 4294967295) + 1 = 4294967296 ^ m := by
 induction m with
 | zero => rfl
 | succ m ih =>
  rw [List.range_succ, List.map_append, List.map_cons, List.map_nil, val_snoc, List.length_map, List.length_range, Nat.pow_succ]
  omega
theorem val_difW {a b : List Nat} (hb : Ws b) : 1 + val (difW a b (max a.length b.length)) + val b = val a + 4294967296 ^ (max a.length b.length) := by
 generalize hm : max a.length b.length = m
 have h1 := val_range_get a m (by omega)
 have h2 := val_range_get b m (by omega)
 have h3 := val_const m
 have e : val (difW a b m) + val ((List.range m).map fun i => b[i]?.getD 0) = val ((List.range m).map fun i => a[i]?.getD 0) + val ((List.range m).map fun _ => 4294967295) := by
  unfold difW
  rw [← val_map_add, ← val_map_add]
  congr 1
  refine List.map_congr_left fun i _ => ?_
  have := hb.get i
  omega
 omega
theorem dif_val {a b : List Nat} (ha : Ws a) (hb : Ws b) (h : val b ≤ val a) : val (cdig 1 (difW a b (max a.length b.length))) = val a - val b := by
 have h1 := cdig_val 1 (difW a b (max a.length b.length))
 have h2 := val_difW (a := a) hb
 have h3 := val_lt (cdig_Ws 1 (difW a b (max a.length b.length)))
 have h4 : (difW a b (max a.length b.length)).length = max a.length b.length := by simp [difW]
 rw [cdig_len, h4] at h3
 rw [h4] at h1
 have h5 : val a < 4294967296 ^ max a.length b.length := Nat.lt_of_lt_of_le (val_lt ha) (Nat.pow_le_pow_right (by decide) (by omega))
 generalize 4294967296 ^ max a.length b.length = P at *
 generalize cout 1 (difW a b (max a.length b.length)) = c at *
 generalize val (cdig 1 (difW a b (max a.length b.length))) = x at *
 have hc : c = 1 := by
  rcases Nat.lt_trichotomy c 1 with h | h | h
  ·have : c = 0 := by omega
   subst this
   omega
  ·exact h
  ·have : P * 2 ≤ P * c := Nat.mul_le_mul_left P (by omega)
   omega
 subst hc
 omega
theorem add_val (a b : List Nat) : val (cdig 0 (sumW a b (max a.length b.length) ++ [0])) = val a + val b ∨ 4294967296 ^ (max a.length b.length + 1) ≤ val a + val b := by
 have h1 := cdig_val 0 (sumW a b (max a.length b.length) ++ [0])
 rw [val_snoc_zero, val_sumW] at h1
 have h4 : (sumW a b (max a.length b.length) ++ [0]).length = max a.length b.length + 1 := by simp [sumW]
 rw [h4] at h1
 generalize cout 0 (sumW a b (max a.length b.length) ++ [0]) = c at *
 cases c with
 | zero => left; omega
 | succ c =>
  right
  rw [Nat.mul_add] at h1
  omega
theorem add_val' {a b : List Nat} (ha : Ws a) (hb : Ws b) : val (cdig 0 (sumW a b (max a.length b.length) ++ [0])) = val a + val b := by
 rcases add_val a b with h | h
 ·exact h
 ·exfalso
  have h1 : val a < 4294967296 ^ max a.length b.length := Nat.lt_of_lt_of_le (val_lt ha) (Nat.pow_le_pow_right (by decide) (by omega))
  have h2 : val b < 4294967296 ^ max a.length b.length := Nat.lt_of_lt_of_le (val_lt hb) (Nat.pow_le_pow_right (by decide) (by omega))
  rw [Nat.pow_succ] at h
  omega

/-- The guess of a long division: never too small, and at most one too great. V = (f B + s) P + vl, U = (t B + u) P + ul. -/
theorem est_first {f s P vl t u ul U V : Nat} (hV : V = (f * 4294967296 + s) * P + vl) (hU : U = (t * 4294967296 + u) * P + ul) (hul : ul < P) (hvl : vl < P) (hu : u < 4294967296) (hs : s < 4294967296) (hf : 4294967296 ≤ 2 * f) (hlt : U < 4294967296 * V) :
  U / V ≤ t / f ∧ t / f ≤ 4294967297 := by
 have hP : 0 < P := by omega
 constructor
 ·rw [Nat.le_div_iff_mul_le (by omega)]
  have h1 := Nat.div_mul_le_self U V
  generalize U / V = q at *
  have h2 : q * (f * 4294967296 * P) ≤ q * V := Nat.mul_le_mul_left q (by rw [hV, Nat.add_mul]; omega)
  have h3 : U < (t + 1) * 4294967296 * P := by
   have : (t * 4294967296 + u) * P + P ≤ (t + 1) * 4294967296 * P := by
    rw [← Nat.succ_mul]
    exact Nat.mul_le_mul_right P (by omega)
   omega
  have h4 : q * f * (4294967296 * P) < (t + 1) * (4294967296 * P) := by
   rw [Nat.mul_assoc q f, ← Nat.mul_assoc f 4294967296 P, ← Nat.mul_assoc (t + 1) 4294967296 P]
   omega
  have := Nat.lt_of_mul_lt_mul_right h4
  omega
 ·have h3 : V < (f + 1) * 4294967296 * P := by
   have : (f * 4294967296 + s) * P + P ≤ (f + 1) * 4294967296 * P := by
    rw [← Nat.succ_mul]
    exact Nat.mul_le_mul_right P (by omega)
   omega
  have h4 : t * 4294967296 * P ≤ U := by rw [hU, Nat.add_mul]; omega
  have h5 : t * (4294967296 * P) < 4294967296 * (f + 1) * (4294967296 * P) := by
   rw [← Nat.mul_assoc t, Nat.mul_assoc 4294967296 (f + 1), ← Nat.mul_assoc (f + 1)]
   omega
  have h6 := Nat.lt_of_mul_lt_mul_right h5
  have : t / f < 4294967298 := by
   rw [Nat.div_lt_iff_lt_mul (by omega)]
   omega
  omega
theorem est_over {f s P vl t u ul U V g : Nat} (hV : V = (f * 4294967296 + s) * P + vl) (hU : U = (t * 4294967296 + u) * P + ul) (hul : ul < P) (hV0 : 0 < V) (hg : t * 4294967296 + u < g * (f * 4294967296 + s)) : U / V < g := by
 rw [Nat.div_lt_iff_lt_mul hV0]
 have h1 : (t * 4294967296 + u + 1) * P ≤ g * (f * 4294967296 + s) * P := Nat.mul_le_mul_right P hg
 have h2 : g * (f * 4294967296 + s) * P ≤ g * V := by
  have h0 : (f * 4294967296 + s) * P ≤ V := by rw [hV]; exact Nat.le_add_right _ _
  rw [Nat.mul_assoc]
  exact Nat.mul_le_mul_left g h0
 rw [Nat.add_mul, Nat.one_mul] at h1
 omega
theorem est_done {f s P vl t u ul U V g : Nat} (hV : V = (f * 4294967296 + s) * P + vl) (hU : U = (t * 4294967296 + u) * P + ul) (hvl : vl < P) (hf : 0 < f) (hg : g * (f * 4294967296 + s) ≤ t * 4294967296 + u) (hgB : g ≤ 4294967296) : g ≤ U / V + 1 := by
 have hP : 0 < P := by omega
 have hVB : 4294967296 * P ≤ V := by
  have : 1 * 4294967296 * P ≤ f * 4294967296 * P := Nat.mul_le_mul_right P (Nat.mul_le_mul_right _ hf)
  rw [hV, Nat.add_mul]
  omega
 have hV0 : 0 < V := Nat.lt_of_lt_of_le (Nat.mul_pos (by decide) hP) hVB
 have h1 : g * (f * 4294967296 + s) * P ≤ (t * 4294967296 + u) * P := Nat.mul_le_mul_right P hg
 have h2 : g * vl ≤ 4294967296 * P := Nat.mul_le_mul hgB (by omega)
 have h3 : g * V ≤ U + V := by
  rw [show g * V = g * (f * 4294967296 + s) * P + g * vl by rw [hV, Nat.mul_add, Nat.mul_assoc]]
  omega
 cases g with
 | zero => exact Nat.zero_le _
 | succ g =>
  have : g * V ≤ U := by rw [Nat.succ_mul] at h3; omega
  have := (Nat.le_div_iff_mul_le hV0).2 this
  omega

end Wd
end Go.Proofs.YtodkhjihkkmplaaGreat
