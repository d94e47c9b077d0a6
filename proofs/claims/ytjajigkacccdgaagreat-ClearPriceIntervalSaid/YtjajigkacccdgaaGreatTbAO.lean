/-
Contract of Floor of package frac at whole numbers, and WOK at 2^62. Plain law of words in base 2^32: carried sums, differences, division by one word, the digit that a long division guesses. No statement of the seat is proved here; no conditions beyond those of each theorem.
-/
import Derived.Test.YtjajigkacccdgaaGreatTbAN
import Derived.Test.YtjajigkacccdgaaGreatTbAD
namespace Go.Proofs.YtjajigkacccdgaaGreat
set_option linter.unusedVariables false
set_option linter.unusedSimpArgs false
open Go.RowKit
open Wd

theorem wok_small : WOK 4611686018427387904 where
 add := addOK_small
 sub := subOK_small
 div := by
  intro A A' n n' c c' x y w h h' hx hy hn hn'
  exact divW_small A A' n n' c c' x y w h h' (by omega) hy hn hn'
 len := fun x hx => Nat.le_trans (len_le_two (by omega)) (by omega)

theorem whole_num {q : Rat} {n d z : Int} (hd : 0 < d) (h : q = mkRat n d.natAbs) (hz : q = (z : Rat)) : n = z * d := by
 rw [hz] at h
 have hd' : d.natAbs ≠ 0 := by omega
 have e1 := mk_num n d.natAbs hd'
 have e2 := mk_den n d.natAbs hd'
 rw [← h] at e1 e2
 have e3 : ((z : Rat)).num = z := rfl
 have e4 : ((z : Rat)).den = 1 := rfl
 rw [e3] at e1
 rw [e4] at e2
 have hg1 := Nat.gcd_dvd_right n.natAbs d.natAbs
 have hg2 := Nat.gcd_dvd_left n.natAbs d.natAbs
 generalize Nat.gcd n.natAbs d.natAbs = g at *
 have hgd : d.natAbs = g := by
  obtain ⟨k, hk⟩ := hg1
  have hg0 : 0 < g := by rcases Nat.eq_zero_or_pos g with h0 | h0; · rw [h0] at hk; omega
                         ·exact h0
  rw [hk, Nat.mul_div_cancel_left _ hg0] at e2
  rw [hk, ← e2, Nat.mul_one]
 have hgd' : (g : Int) = d := by omega
 have hdv : (g : Int) ∣ n := Int.ofNat_dvd_left.2 hg2
 rw [e1, ← hgd', Int.tdiv_mul_cancel hdv]

theorem whole_parts {n d z : Int} {m1 m2 : Bool} {r1 r2 : List Nat} (hd : 0 < d) (h : n = z * d) (h1 : sg m1 (val r1) = n) (h2 : sg m2 (val r2) = d) : val r2 ≠ 0 ∧ val r2 ∣ val r1 ∧ sg (m1 != m2) (val r1 / val r2) = z := by
 have a1 : val r1 = n.natAbs := by rw [← h1, sg_natAbs]
 have a2 : val r2 = d.natAbs := by rw [← h2, sg_natAbs]
 have hp : 0 < d.natAbs := by omega
 have a3 : n.natAbs = z.natAbs * d.natAbs := by rw [h, Int.natAbs_mul]
 have a4 : n.natAbs / d.natAbs = z.natAbs := by rw [a3, Nat.mul_div_cancel _ hp]
 refine ⟨by omega, ?_, ?_⟩
 ·rw [a1, a2, a3]; exact Nat.dvd_mul_left _ _
 ·have hm2 : m2 = false := by
   cases m2
   ·rfl
   ·unfold sg at h2; simp at h2; omega
  subst hm2
  rw [a1, a2, a4]
  cases m1
  ·have : 0 ≤ z := by
    by_cases hz : z < 0
    ·have : n < 0 := by rw [h]; exact Int.mul_neg_of_neg_of_pos hz hd
     unfold sg at h1; simp at h1; omega
    ·omega
   simp [sg]; omega
  ·have : z ≤ 0 := by
    by_cases hz : 0 < z
    ·have : 0 < n := by rw [h]; exact Int.mul_pos hz hd
     unfold sg at h1; simp at h1; omega
    ·omega
   simp [sg]; omega

set_option maxRecDepth 100000 in
set_option maxHeartbeats 4000000 in
theorem qfloor_whole (M Nn Nd : Nat) (HO : WOK M) (hnm : Nn ≤ M) (an an' : Bool) (aA aA' : Option Addr) (ak ac ak' ac' : Nat) (z : Int) (w : World) (ha : QAt Nn Nd w an aA ak ac an' aA' ak' ac' (z : Rat)) :
  Calls Tryz.prog 198 #[.agg #[.bool an, .slice aA ak ac, .bool an', .slice aA' ak' ac']] w (RetZ w z) := by
 obtain ⟨na, da, hq, h1, h2, h3⟩ := ha
 have hz := whole_num (qden_pos da) h3 rfl
 have hd := qden_pos da
 have P := fun W hW => parts_in (w := W) (h := hq.below (w' := W) hW)
 generalize qnum na da = x1 at *
 generalize qden da = x2 at *
 have D := fun (m1 : Bool) (B1 : Option Addr) (j1 d1 : Nat) (r1 : List Nat) (m2 : Bool) (B2 : Option Addr) (j2 d2 : Nat) (r2 : List Nat) (W : World) (hj1 : j1 ≤ d1) (hj2 : j2 ≤ d2) (hl1 : j1 ≤ 10000000000) (hl2 : j2 ≤ 10000000000) (hW1 : Wat W B1 j1 r1) (hW2 : Wat W B2 j2 r2) (hs1 : sg m1 (val r1) = x1) (hs2 : sg m2 (val r2) = x2) =>
  divMod_exact M HO.div m1 m2 B1 B2 j1 j2 d1 d2 r1 r2 W hW1 hW2 hj1 hj2 hl1 hl2 (by have : val r1 = x1.natAbs := by rw [← hs1, sg_natAbs]
                                                                                    omega) (whole_parts hd hz hs1 hs2).1 (whole_parts hd hz hs1 hs2).2.1
 have D : ∀ (m1 : Bool) (B1 : Option Addr) (j1 d1 : Nat) (r1 : List Nat) (m2 : Bool) (B2 : Option Addr) (j2 d2 : Nat) (r2 : List Nat) (W : World) (hj1 : j1 ≤ d1) (hj2 : j2 ≤ d2) (hl1 : j1 ≤ 10000000000) (hl2 : j2 ≤ 10000000000) (hW1 : Wat W B1 j1 r1) (hW2 : Wat W B2 j2 r2) (hs1 : sg m1 (val r1) = x1) (hs2 : sg m2 (val r2) = x2),
   Calls Tryz.prog 153 #[.agg #[.bool m1, .slice B1 j1 d1], .agg #[.bool m2, .slice B2 j2 d2]] W (RetDM W z) := by
  intro m1 B1 j1 d1 r1 m2 B2 j2 d2 r2 W hj1 hj2 hl1 hl2 hW1 hW2 hs1 hs2
  have := D m1 B1 j1 d1 r1 m2 B2 j2 d2 r2 W hj1 hj2 hl1 hl2 hW1 hW2 hs1 hs2
  rwa [(whole_parts hd hz hs1 hs2).2.2] at this
 have P := Lib.hid P
 have D := Lib.hid D
 clear hz hd hq h1 h2 h3 hnm HO
 go_enter Tryz.func198, Tryz.ntmps198
 go_wp2_with fail
 obtain ⟨hB0, hB1, hBW, hsz⟩ := pre2 w 42 #[.bool an, .slice aA ak ac, .bool an', .slice aA' ak' ac'] 40 #[.bool false, .slice none 0 0]
 generalize (w.alloc (.cells #[.bool an, .slice aA ak ac, .bool an', .slice aA' ak' ac'] 42)).alloc (.cells #[.bool false, .slice none 0 0] 40) = W at *
 have HSZ := Lib.hid hsz
 clear hsz
 refine (P.out W hBW).mono ?_
 rintro e w1 ⟨m1, B1, j1, d1, r1, m2, B2, j2, d2, r2, rfl, hj1, hj2, hl1, hl2, hW1, hW2, hs1, hs2, hb1⟩
 have hB0 := hB0.below hb1 hB0.lt
 have hB1 := hB1.below hb1 hB1.lt
 have hBW : Below w.heap.size w w1 := hBW.trans (hb1.mono hBW.size)
 clear hb1 HSZ P
 have hs1 := Lib.hid hs1
 have hs2 := Lib.hid hs2
 go_wp2_with fail
 refine (D.out m1 B1 j1 d1 r1 m2 B2 j2 d2 r2 w1 hj1 hj2 hl1 hl2 hW1 hW2 hs1.out hs2.out).mono ?_
 rintro e w2 ⟨A3, k3, c3, rfl, hk3, hW3, hF3, hb2⟩
 have hr := (RS.start hB1).call hb2
 have hBW : Below w.heap.size w w1 := hBW
 have hb3 : Below w2.heap.size w2 ((w2.alloc (.cells #[.bool (decide (z < 0)), .slice A3 k3 c3] 40)).alloc (.cells #[.bool false, .slice none 0 0] 40)) := ((Below.refl _ _).alloc (Nat.le_refl _) _).alloc (by simp only [World.size_alloc]; omega) _
 have hr := hr.call hb3
 have hF3 := hF3.keep hW3 hb3
 have hW3 := hW3.below hb3
 obtain ⟨_, _, i0, i1, i2, i3⟩ := hr.two
 have HSZ : Hid (w.heap.size + 1 < w1.heap.size) := hB1.lt
 clear hb2 hb3 hB0 hB1
 have hfin := retZ_close hBW (by omega) (by have := HSZ.out; omega) hr hk3 hW3 hF3
 obtain ⟨d0, d1, -, -⟩ := (hr.done (.bool (decide (z < 0))) (.slice A3 k3 c3)).two
 have HF := Lib.hid hfin
 clear hfin hW1 hW2
 go_wp2
 refine bodyPost_ret (v := .agg #[.bool (decide (z < 0)), .slice A3 k3 c3]) ?_ rfl HF.out
 simp [results, Tryz.results198, go_sem, d0, d1]

end Go.Proofs.YtjajigkacccdgaaGreat

namespace Go.Proofs.YtjajigkacccdgaaGreat
namespace Wd
set_option linter.unusedVariables false
set_option linter.unusedSimpArgs false

/-- The words of numbers with a carry c, and the carry behind them. -/
def cdig : Nat → List Nat → List Nat
 | _, [] => []
 | c, t :: ts => (t + c) % 4294967296 :: cdig ((t + c) / 4294967296) ts
def cout : Nat → List Nat → Nat
 | c, [] => c
 | c, t :: ts => cout ((t + c) / 4294967296) ts
theorem cdig_snoc : ∀ (c : Nat) (ts : List Nat) (t : Nat), cdig c (ts ++ [t]) = cdig c ts ++ [(t + cout c ts) % 4294967296]
 | _, [], _ => rfl
 | c, s :: ts, t => by rw [List.cons_append, cdig, cdig_snoc, cdig, cout, List.cons_append]
theorem cout_snoc : ∀ (c : Nat) (ts : List Nat) (t : Nat), cout c (ts ++ [t]) = (t + cout c ts) / 4294967296
 | _, [], _ => rfl
 | c, s :: ts, t => by rw [List.cons_append, cout, cout_snoc, cout]
theorem cdig_len : ∀ (c : Nat) (ts : List Nat), (cdig c ts).length = ts.length
 | _, [] => rfl
 | c, t :: ts => by rw [cdig, List.length_cons, cdig_len, List.length_cons]
theorem cdig_Ws : ∀ (c : Nat) (ts : List Nat), Ws (cdig c ts)
 | _, [] => Ws.nil
 | c, t :: ts => by rw [cdig]; exact Ws.cons (Nat.mod_lt _ (by decide)) (cdig_Ws _ _)
theorem cdig_val : ∀ (c : Nat) (ts : List Nat), val (cdig c ts) + 4294967296 ^ ts.length * cout c ts = c + val ts
 | c, [] => by simp [cdig, cout, val_nil]
 | c, t :: ts => by
  have ih := cdig_val ((t + c) / 4294967296) ts
  have hd := Nat.div_add_mod (t + c) 4294967296
  rw [cdig, cout, val_cons, val_cons, List.length_cons, Nat.pow_succ, Nat.mul_comm (4294967296 ^ ts.length) 4294967296, Nat.mul_assoc]
  have e : 4294967296 * val (cdig ((t + c) / 4294967296) ts) + 4294967296 * (4294967296 ^ ts.length * cout ((t + c) / 4294967296) ts) = 4294967296 * ((t + c) / 4294967296) + 4294967296 * val ts := by
   rw [← Nat.mul_add, ih, Nat.mul_add]
  omega
theorem cout_lt {K : Nat} (hK : 0 < K) : ∀ {c : Nat} {ts : List Nat}, c < K → (∀ t ∈ ts, t ≤ 4294967296 * K - K) → cout c ts < K
 | _, [], hc, _ => hc
 | c, t :: ts, hc, h => by
  rw [cout]
  refine cout_lt hK ?_ fun s hs => h s (List.mem_cons_of_mem _ hs)
  have := h t (List.mem_cons_self ..)
  rw [Nat.div_lt_iff_lt_mul (by decide), Nat.mul_comm]
  omega
theorem val_range_get : ∀ (l : List Nat) (m : Nat), l.length ≤ m → val ((List.range m).map fun i => l[i]?.getD 0) = val l
 | [], m, _ => by
  have e : (List.range m).map (fun i => ([] : List Nat)[i]?.getD 0) = List.replicate m 0 := by
   apply List.ext_getElem (by simp)
   intro i h1 h2
   simp
  rw [e, val_replicate_zero, val_nil]
 | d :: l, 0, h => by simp at h
 | d :: l, m + 1, h => by
  rw [List.range_succ_eq_map, List.map_cons, List.map_map, val_cons, val_cons]
  have ih := val_range_get l m (by simpa using h)
  have e : (List.range m).map ((fun i => (d :: l)[i]?.getD 0) ∘ Nat.succ) = (List.range m).map fun i => l[i]?.getD 0 := List.map_congr_left fun i _ => by simp
  rw [e, ih]
  rfl
theorem val_map_add {α : Type} (f g : α → Nat) : ∀ l : List α, val (l.map fun i => f i + g i) = val (l.map f) + val (l.map g)
 | [] => rfl
 | x :: l => by rw [List.map_cons, val_cons, val_map_add f g l, List.map_cons, val_cons, List.map_cons, val_cons, Nat.mul_add]; omega
theorem val_map_mul {α : Type} (f : α → Nat) (k : Nat) : ∀ l : List α, val (l.map fun i => f i * k) = val (l.map f) * k
 | [] => by simp [val_nil]
 | x :: l => by rw [List.map_cons, val_cons, val_map_mul f k l, List.map_cons, val_cons, Nat.add_mul, Nat.mul_assoc]
/-- The sums of words at the same place. -/
def sumW (a b : List Nat) (m : Nat) : List Nat := (List.range m).map fun i => a[i]?.getD 0 + b[i]?.getD 0
theorem val_sumW (a b : List Nat) : val (sumW a b (max a.length b.length)) = val a + val b := by
 unfold sumW
 rw [val_map_add, val_range_get a _ (by omega), val_range_get b _ (by omega)]
/-- The words of a with the complements of those of b. -/
def difW (a b : List Nat) (m : Nat) : List Nat := (List.range m).map fun i => a[i]?.getD 0 + (4294967295 - b[i]?.getD 0)
theorem val_const (m : Nat) : val ((List.range m).map fun _ => 4294967295) + 1 = 4294967296 ^ m := by
 induction m with
 | zero => rfl
 | succ m ih =>
  rw [List.range_succ, List.map_append, List.map_cons, List.map_nil, val_snoc, List.length_map, List.length_range, Nat.pow_succ]
  omega
theorem val_difW {a b : List Nat} (hb : Ws b) : 1 + val (difW a b (max a.length b.length)) + val b = val a + 4294967296 ^ (max a.length b.length) := by
 generalize hm : max a.length b.length = m
 have h1 := val_range_get a m (by omega)
 have h2 := val_range_get b m (by omega)
 have h3 := val_const m
 have e : val (difW a b m) + val ((List.range m).map fun i => b[i]?.getD 0) = val ((List.range m).map fun i => a[i]?.getD 0) + val ((List.range m).map fun _ => 4294967295) := by
  unfold difW
  rw [← val_map_add, ← val_map_add]
  congr 1
  refine List.map_congr_left fun i _ => ?_
  have := hb.get i
  omega
 omega
theorem dif_val {a b : List Nat} (ha : Ws a) (hb : Ws b) (h : val b ≤ val a) : val (cdig 1 (difW a b (max a.length b.length))) = val a - val b := by
 have h1 := cdig_val 1 (difW a b (max a.length b.length))
 have h2 := val_difW (a := a) hb
 have h3 := val_lt (cdig_Ws 1 (difW a b (max a.length b.length)))
 have h4 : (difW a b (max a.length b.length)).length = max a.length b.length := by simp [difW]
 rw [cdig_len, h4] at h3
 rw [h4] at h1
 have h5 : val a < 4294967296 ^ max a.length b.length := Nat.lt_of_lt_of_le (val_lt ha) (Nat.pow_le_pow_right (by decide) (by omega))
 generalize 4294967296 ^ max a.length b.length = P at *
 generalize cout 1 (difW a b (max a.length b.length)) = c at *
 generalize val (cdig 1 (difW a b (max a.length b.length))) = x at *
 have hc : c = 1 := by
  rcases Nat.lt_trichotomy c 1 with h | h | h
  ·have : c = 0 := by omega
   subst this
   omega
  ·exact h
  ·have : P * 2 ≤ P * c := Nat.mul_le_mul_left P (by omega)
   omega
 subst hc
 omega
theorem add_val (a b : List Nat) : val (cdig 0 (sumW a b (max a.length b.length) ++ [0])) = val a + val b ∨ 4294967296 ^ (max a.length b.length + 1) ≤ val a + val b := by
 have h1 := cdig_val 0 (sumW a b (max a.length b.length) ++ [0])
 rw [val_snoc_zero, val_sumW] at h1
 have h4 : (sumW a b (max a.length b.length) ++ [0]).length = max a.length b.length + 1 := by simp [sumW]
 rw [h4] at h1
 generalize cout 0 (sumW a b (max a.length b.length) ++ [0]) = c at *
 cases c with
 | zero => left; omega
 | succ c =>
  right
  rw [Nat.mul_add] at h1
  omega
theorem add_val' {a b : List Nat} (ha : Ws a) (hb : Ws b) : val (cdig 0 (sumW a b (max a.length b.length) ++ [0])) = val a + val b := by
 rcases add_val a b with h | h
 ·exact h
 ·exfalso
  have h1 : val a < 4294967296 ^ max a.length b.length := Nat.lt_of_lt_of_le (val_lt ha) (Nat.pow_le_pow_right (by decide) (by omega))
  have h2 : val b < 4294967296 ^ max a.length b.length := Nat.lt_of_lt_of_le (val_lt hb) (Nat.pow_le_pow_right (by decide) (by omega))
  rw [Nat.pow_succ] at h
  omega

/-- The guess of a long division: never too small, and at most one too great. V = (f B + s) P + vl, U = (t B + u) P + ul. -/
theorem est_first {f s P vl t u ul U V : Nat} (hV : V = (f * 4294967296 + s) * P + vl) (hU : U = (t * 4294967296 + u) * P + ul) (hul : ul < P) (hvl : vl < P) (hu : u < 4294967296) (hs : s < 4294967296) (hf : 4294967296 ≤ 2 * f) (hlt : U < 4294967296 * V) :
  U / V ≤ t / f ∧ t / f ≤ 4294967297 := by
 have hP : 0 < P := by omega
 constructor
 ·rw [Nat.le_div_iff_mul_le (by omega)]
  have h1 := Nat.div_mul_le_self U V
  generalize U / V = q at *
  have h2 : q * (f * 4294967296 * P) ≤ q * V := Nat.mul_le_mul_left q (by rw [hV, Nat.add_mul]; omega)
  have h3 : U < (t + 1) * 4294967296 * P := by
   have : (t * 4294967296 + u) * P + P ≤ (t + 1) * 4294967296 * P := by
    rw [← Nat.succ_mul]
    exact Nat.mul_le_mul_right P (by omega)
   omega
  have h4 : q * f * (4294967296 * P) < (t + 1) * (4294967296 * P) := by
   rw [Nat.mul_assoc q f, ← Nat.mul_assoc f 4294967296 P, ← Nat.mul_assoc (t + 1) 4294967296 P]
   omega
  have := Nat.lt_of_mul_lt_mul_right h4
  omega
 ·have h3 : V < (f + 1) * 4294967296 * P := by
   have : (f * 4294967296 + s) * P + P ≤ (f + 1) * 4294967296 * P := by
    rw [← Nat.succ_mul]
    exact Nat.mul_le_mul_right P (by omega)
   omega
  have h4 : t * 4294967296 * P ≤ U := by rw [hU, Nat.add_mul]; omega
  have h5 : t * (4294967296 * P) < 4294967296 * (f + 1) * (4294967296 * P) := by
   rw [← Nat.mul_assoc t, Nat.mul_assoc 4294967296 (f + 1), ← Nat.mul_assoc (f + 1)]
   omega
  have h6 := Nat.lt_of_mul_lt_mul_right h5
  have : t / f < 4294967298 := by
   rw [Nat.div_lt_iff_lt_mul (by omega)]
   omega
  omega
theorem est_over {f s P vl t u ul U V g : Nat} (hV : V = (f * 4294967296 + s) * P + vl) (hU : U = (t * 4294967296 + u) * P + ul) (hul : ul < P) (hV0 : 0 < V) (hg : t * 4294967296 + u < g * (f * 4294967296 + s)) : U / V < g := by
 rw [Nat.div_lt_iff_lt_mul hV0]
 have h1 : (t * 4294967296 + u + 1) * P ≤ g * (f * 4294967296 + s) * P := Nat.mul_le_mul_right P hg
 have h2 : g * (f * 4294967296 + s) * P ≤ g * V := by
  have h0 : (f * 4294967296 + s) * P ≤ V := by rw [hV]; exact Nat.le_add_right _ _
  rw [Nat.mul_assoc]
  exact Nat.mul_le_mul_left g h0
 rw [Nat.add_mul, Nat.one_mul] at h1
 omega
theorem est_done {f s P vl t u ul U V g : Nat} (hV : V = (f * 4294967296 + s) * P + vl) (hU : U = (t * 4294967296 + u) * P + ul) (hvl : vl < P) (hf : 0 < f) (hg : g * (f * 4294967296 + s) ≤ t * 4294967296 + u) (hgB : g ≤ 4294967296) : g ≤ U / V + 1 := by
 have hP : 0 < P := by omega
 have hVB : 4294967296 * P ≤ V := by
  have : 1 * 4294967296 * P ≤ f * 4294967296 * P := Nat.mul_le_mul_right P (Nat.mul_le_mul_right _ hf)
  rw [hV, Nat.add_mul]
  omega
 have hV0 : 0 < V := Nat.lt_of_lt_of_le (Nat.mul_pos (by decide) hP) hVB
 have h1 : g * (f * 4294967296 + s) * P ≤ (t * 4294967296 + u) * P := Nat.mul_le_mul_right P hg
 have h2 : g * vl ≤ 4294967296 * P := Nat.mul_le_mul hgB (by omega)
 have h3 : g * V ≤ U + V := by
  rw [show g * V = g * (f * 4294967296 + s) * P + g * vl by rw [hV, Nat.mul_add, Nat.mul_assoc]]
  omega
 cases g with
 | zero => exact Nat.zero_le _
 | succ g =>
  have : g * V ≤ U := by rw [Nat.succ_mul] at h3; omega
  have := (Nat.le_div_iff_mul_le hV0).2 this
  omega

end Wd
end Go.Proofs.YtjajigkacccdgaaGreat
