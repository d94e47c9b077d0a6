/-
Plain law of reference 28: taking the cheapest piece, of equally cheap ones that of the last unit, again and again, leads to the optimal row. The reference of layer 28: room and Part. The reference of layer 28: Allocate. No statement of the seat is proved here; no conditions beyond those of each theorem.
-/
import Derived.Test.YtdoeejcmaeefcaaGreatHA
import Derived.Test.YtdoeejcmaeefcaaGreatJT8
import Derived.Test.YtdoeejcmaeefcaaGreatHM
import Derived.Test.YtdoeejcmaeefcaaGreatJT1
namespace Go.Proofs.YtdoeejcmaeefcaaGreat
set_option linter.unusedVariables false
set_option linter.unusedSimpArgs false
namespace En

/-- What is left of the step at which q stands, and its price. -/
def rm : List (Int × Int) → Int → Option (Int × Int)
  | [], _ => none
  | s :: r, q => if q < s.1 then some (s.1 - q, s.2) else rm r (q - s.1)

theorem qs_nonneg {st : List (Int × Int)} (h : Up st) : 0 ≤ qs st := by
  have := qle_bd (v := 0) h
  omega
theorem rm_none : ∀ {st : List (Int × Int)} {q : Int}, Up st → 0 ≤ q → (rm st q = none ↔ qs st ≤ q)
  | [], q, _, h => by simp [rm, qs]; exact h
  | s :: r, q, hu, h => by
    obtain ⟨h1, _, h2⟩ := hu
    have h3 := qs_nonneg h2
    rw [rm, qs]
    by_cases hq : q < s.1
    · rw [if_pos hq]
      constructor
      · intro e; cases e
      · intro e; omega
    · rw [if_neg hq, rm_none h2 (by omega)]
      omega
theorem rm_mem : ∀ {st : List (Int × Int)} {q n p : Int}, rm st q = some (n, p) → ∃ s ∈ st, s.2 = p
  | [], q, n, p, h => by cases h
  | s :: r, q, n, p, h => by
    rw [rm] at h
    by_cases hq : q < s.1
    · rw [if_pos hq] at h
      simp at h
      exact ⟨s, List.mem_cons_self .., h.2⟩
    · rw [if_neg hq] at h
      obtain ⟨t, ht, e⟩ := rm_mem h
      exact ⟨t, List.mem_cons_of_mem _ ht, e⟩
theorem rm_some : ∀ {st : List (Int × Int)} {q n p : Int}, Up st → 0 ≤ q → rm st q = some (n, p) → 0 < n ∧ qle (p - 1) st ≤ q ∧ q + n = qle p st
  | [], q, n, p, _, _, h => by cases h
  | s :: r, q, n, p, hu, h0, h => by
    obtain ⟨h1, h2, h3⟩ := hu
    rw [rm] at h
    by_cases hq : q < s.1
    · rw [if_pos hq] at h
      simp at h
      obtain ⟨e1, e2⟩ := h
      subst e2
      rw [qle, qle, if_neg (by omega), if_pos (by omega), qle_zero (fun t ht => by have := h2 t ht; omega), qle_zero h2]
      omega
    · rw [if_neg hq] at h
      obtain ⟨t, ht, e⟩ := rm_mem h
      have := h2 t ht
      obtain ⟨i1, i2, i3⟩ := rm_some h3 (by omega) h
      rw [qle, qle, if_pos (by omega), if_pos (by omega)]
      omega

abbrev Z0 : PU := ⟨false, 0, []⟩
/-- What the scan of the first i units has found. -/
def Best (zs : List PU) (xs : List Int) (i : Nat) (a much price : Int) : Prop :=
  (a = -1 ∧ ∀ j, j < i → (zs[j]?.getD Z0).on = true → rm (zs[j]?.getD Z0).st (xs[j]?.getD 0) = none) ∨
  ∃ k : Nat, a = (k : Int) ∧ k < i ∧ (zs[k]?.getD Z0).on = true ∧ rm (zs[k]?.getD Z0).st (xs[k]?.getD 0) = some (much, price) ∧
    ∀ j, j < i → (zs[j]?.getD Z0).on = true → ∀ n p, rm (zs[j]?.getD Z0).st (xs[j]?.getD 0) = some (n, p) → price ≤ p ∧ (k < j → price < p)

theorem Best.start (zs : List PU) (xs : List Int) (m p : Int) : Best zs xs 0 (-1) m p := Or.inl ⟨rfl, fun j hj => absurd hj (by omega)⟩
theorem lt_succ_cases {j i : Nat} (h : j < i + 1) : j < i ∨ j = i := by omega
theorem Best.off {zs : List PU} {xs : List Int} {i : Nat} {a m p : Int} (h : Best zs xs i a m p) (ho : (zs[i]?.getD Z0).on = true → rm (zs[i]?.getD Z0).st (xs[i]?.getD 0) = none) : Best zs xs (i + 1) a m p := by
  rcases h with ⟨h1, h2⟩ | ⟨k, h1, h2, h3, h4, h5⟩
  · refine Or.inl ⟨h1, fun j hj hon => ?_⟩
    rcases lt_succ_cases hj with hj | rfl
    · exact h2 j hj hon
    · exact ho hon
  · refine Or.inr ⟨k, h1, by omega, h3, h4, fun j hj hon n q hr => ?_⟩
    rcases lt_succ_cases hj with hj | rfl
    · exact h5 j hj hon n q hr
    · rw [ho hon] at hr; cases hr
theorem Best.keep {zs : List PU} {xs : List Int} {i : Nat} {a m p n q : Int} (h : Best zs xs i a m p) (ha : 0 ≤ a) (hr : rm (zs[i]?.getD Z0).st (xs[i]?.getD 0) = some (n, q)) (hq : p < q) : Best zs xs (i + 1) a m p := by
  rcases h with ⟨h1, h2⟩ | ⟨k, h1, h2, h3, h4, h5⟩
  · omega
  · refine Or.inr ⟨k, h1, by omega, h3, h4, fun j hj hon n' q' hr' => ?_⟩
    rcases lt_succ_cases hj with hj | rfl
    · exact h5 j hj hon n' q' hr'
    · rw [hr] at hr'
      simp at hr'
      omega
theorem Best.take {zs : List PU} {xs : List Int} {i : Nat} {a m p n q : Int} (h : Best zs xs i a m p) (hon : (zs[i]?.getD Z0).on = true) (hr : rm (zs[i]?.getD Z0).st (xs[i]?.getD 0) = some (n, q)) (hq : a < 0 ∨ q ≤ p) : Best zs xs (i + 1) (i : Int) n q := by
  refine Or.inr ⟨i, rfl, by omega, hon, hr, fun j hj hon' n' q' hr' => ?_⟩
  rcases lt_succ_cases hj with hj | rfl
  · rcases h with ⟨h1, h2⟩ | ⟨k, h1, h2, h3, h4, h5⟩
    · rw [h2 j hj hon'] at hr'; cases hr'
    · have := (h5 j hj hon' n' q' hr').1
      omega
  · rw [hr] at hr'
    simp at hr'
    omega

theorem thr_at {v : Int} {u : Nat} : ∀ {zs : List PU} {xs : List Int} {k : Nat}, Thr v u k zs xs → ∀ j, j < zs.length →
    ((zs[j]?.getD Z0).lo v ≤ xs[j]?.getD 0 ∧ xs[j]?.getD 0 ≤ (zs[j]?.getD Z0).hi v) ∧ (k + j < u → xs[j]?.getD 0 = (zs[j]?.getD Z0).lo v) ∧ (u < k + j → xs[j]?.getD 0 = (zs[j]?.getD Z0).hi v)
  | [], [], _, _, j, hj => absurd hj (by simp)
  | z :: zs, x :: xs, k, h, 0, _ => by simpa using ⟨h.1, h.2.1, h.2.2.1⟩
  | z :: zs, x :: xs, k, h, j + 1, hj => by
    have := thr_at h.2.2.2 j (by simpa using hj)
    rw [show k + 1 + j = k + (j + 1) by omega] at this
    simpa using this
  | [], _ :: _, _, h, _, _ => h.elim
  | _ :: _, [], _, h, _, _ => h.elim
theorem thr_len {v : Int} {u : Nat} : ∀ {zs : List PU} {xs : List Int} {k : Nat}, Thr v u k zs xs → xs.length = zs.length
  | [], [], _, _ => rfl
  | z :: zs, x :: xs, k, h => by simpa using thr_len h.2.2.2
  | [], _ :: _, _, h => h.elim
  | _ :: _, [], _, h => h.elim
theorem ok_at : ∀ {zs : List PU}, AllOk zs → ∀ j, j < zs.length → (zs[j]?.getD Z0).Ok
  | [], _, j, hj => absurd hj (by simp)
  | z :: zs, h, 0, _ => by simpa using h.1
  | z :: zs, h, j + 1, hj => by simpa using ok_at h.2 j (by simpa using hj)

theorem greedy {zs : List PU} {xs : List Int} {v : Int} {u k : Nat} {much price amt : Int} (ho : AllOk zs) (ht : Thr v u 0 zs xs) (hb : Best zs xs zs.length (k : Int) much price) (h0 : 0 ≤ amt) (ha : amt ≤ much) :
    Thr price k 0 zs (xs.set k (xs[k]?.getD 0 + amt)) := by
  have hl := thr_len ht
  rcases hb with ⟨h1, _⟩ | ⟨k', h1, h2, h3, h4, h5⟩
  · omega
  obtain rfl : k = k' := by omega
  have T := thr_at ht
  have oa := ok_at ho k h2
  have Tk := T k h2
  have lok : (zs[k]?.getD Z0).lo v = max (zs[k]?.getD Z0).mn (qle (v - 1) (zs[k]?.getD Z0).st) := by unfold PU.lo; rw [if_pos h3]
  have xk0 : 0 ≤ xs[k]?.getD 0 := by have := Tk.1.1; have := oa.2.1; omega
  obtain ⟨r1, r2, r3⟩ := rm_some oa.1 xk0 h4
  have hvp : v ≤ price := by
    by_cases h : v ≤ price
    · exact h
    · have := qle_mono (v := price) (u := v - 1) (by omega) oa.1
      have := Tk.1.1
      omega
  refine thr_of _ _ _ (by simpa using hl) fun j hj => ?_
  have Tj := T j hj
  have oj := ok_at ho j hj
  rw [Nat.zero_add] at Tj ⊢
  rw [set_get _ _ _ _ (by omega)]
  by_cases hon : (zs[j]?.getD Z0).on = true
  · have l1 : ∀ v, (zs[j]?.getD Z0).lo v = max (zs[j]?.getD Z0).mn (qle (v - 1) (zs[j]?.getD Z0).st) := fun v => by unfold PU.lo; rw [if_pos hon]
    have l2 : ∀ v, (zs[j]?.getD Z0).hi v = max (zs[j]?.getD Z0).mn (qle v (zs[j]?.getD Z0).st) := fun v => by unfold PU.hi; rw [if_pos hon]
    have xj0 : 0 ≤ xs[j]?.getD 0 := by have := Tj.1.1; rw [l1] at this; have := oj.2.1; omega
    have b1 := qle_bd (v := price) oj.1
    have m1 := qle_mono (v := price - 1) (u := price) (by omega) oj.1
    have A : qle (price - 1) (zs[j]?.getD Z0).st ≤ xs[j]?.getD 0 ∧ (k < j → qle price (zs[j]?.getD Z0).st ≤ xs[j]?.getD 0) := by
      cases hr : rm (zs[j]?.getD Z0).st (xs[j]?.getD 0) with
      | none =>
        have := (rm_none oj.1 xj0).1 hr
        exact ⟨by omega, fun _ => by omega⟩
      | some np =>
        obtain ⟨n, p⟩ := np
        obtain ⟨g1, g2⟩ := h5 j hj hon n p hr
        obtain ⟨s1, s2, s3⟩ := rm_some oj.1 xj0 hr
        have m2 := qle_mono (v := price - 1) (u := p - 1) (by omega) oj.1
        refine ⟨by omega, fun h => ?_⟩
        have m3 := qle_mono (v := price) (u := p - 1) (by have := g2 h; omega) oj.1
        omega
    obtain ⟨A1, A2⟩ := A
    have m4 := qle_mono (v := v) (u := price) hvp oj.1
    rw [l1, l2] at *
    by_cases hkj : k = j
    · subst hkj
      rw [if_pos rfl]
      refine ⟨⟨by omega, by omega⟩, fun h => absurd h (by omega), fun h => absurd h (by omega)⟩
    · rw [if_neg hkj]
      by_cases hv : v = price
      · subst hv
        refine ⟨⟨by omega, by omega⟩, fun h => Tj.2.1 ?_, fun h => ?_⟩
        · by_cases hku : k ≤ u
          · omega
          · have := Tk.2.2 (by omega)
            rw [Nat.zero_add] at Tk
            have l3 : (zs[k]?.getD Z0).hi v = max (zs[k]?.getD Z0).mn (qle v (zs[k]?.getD Z0).st) := by unfold PU.hi; rw [if_pos h3]
            omega
        · have := A2 h
          omega
      · have m5 := qle_mono (v := v) (u := price - 1) (by omega) oj.1
        refine ⟨⟨by omega, by omega⟩, fun h => by omega, fun h => ?_⟩
        have := A2 h
        omega
  · have l1 : ∀ v, (zs[j]?.getD Z0).lo v = 0 := fun v => by unfold PU.lo; rw [if_neg hon]
    have l2 : ∀ v, (zs[j]?.getD Z0).hi v = 0 := fun v => by unfold PU.hi; rw [if_neg hon]
    have hkj : k ≠ j := by rintro rfl; exact hon h3
    rw [if_neg hkj]
    rw [l1, l2] at *
    exact ⟨⟨by omega, by omega⟩, fun _ => by omega, fun _ => by omega⟩

theorem sum_up_le : ∀ (zs : List PU) (xs : List Int), xs.length = zs.length → (∀ j, j < zs.length → (zs[j]?.getD Z0).up ≤ xs[j]?.getD 0) → sumR (zs.map PU.up) ≤ sumR xs
  | [], [], _, _ => Int.le_refl _
  | z :: zs, x :: xs, hl, h => by
    have h0 := h 0 (by simp)
    have ih := sum_up_le zs xs (by simpa using hl) fun j hj => by
      have := h (j + 1) (by simpa using hj)
      simpa using this
    simp at h0
    simp [sumR]
    omega
  | [], _ :: _, h, _ => by simp at h
  | _ :: _, [], h, _ => by simp at h

theorem Best.found {zs : List PU} {xs : List Int} {v : Int} {u : Nat} {a much price : Int} (ho : AllOk zs) (ht : Thr v u 0 zs xs) (hb : Best zs xs zs.length a much price) (hs : sumR xs < sumR (zs.map PU.up)) :
    ∃ k : Nat, a = (k : Int) ∧ k < zs.length ∧ 0 < much := by
  have T := thr_at ht
  rcases hb with ⟨h1, h2⟩ | ⟨k, h1, h2, h3, h4, h5⟩
  · exfalso
    have := sum_up_le zs xs (thr_len ht) fun j hj => by
      have oj := ok_at ho j hj
      have Tj := T j hj
      by_cases hon : (zs[j]?.getD Z0).on = true
      · have l1 : (zs[j]?.getD Z0).lo v = max (zs[j]?.getD Z0).mn (qle (v - 1) (zs[j]?.getD Z0).st) := by unfold PU.lo; rw [if_pos hon]
        have xj0 : 0 ≤ xs[j]?.getD 0 := by have := Tj.1.1; rw [l1] at this; have := oj.2.1; omega
        have := (rm_none oj.1 xj0).1 (h2 j hj hon)
        unfold PU.up
        rw [if_pos hon]
        exact this
      · have l1 : (zs[j]?.getD Z0).lo v = 0 := by unfold PU.lo; rw [if_neg hon]
        have := Tj.1.1
        unfold PU.up
        rw [if_neg hon]
        omega
    omega
  · refine ⟨k, h1, h2, ?_⟩
    have oa := ok_at ho k h2
    have lok : (zs[k]?.getD Z0).lo v = max (zs[k]?.getD Z0).mn (qle (v - 1) (zs[k]?.getD Z0).st) := by unfold PU.lo; rw [if_pos h3]
    have xk0 : 0 ≤ xs[k]?.getD 0 := by have := (T k h2).1.1; have := oa.2.1; omega
    exact (rm_some oa.1 xk0 h4).1

theorem below_st : ∀ (st : List (Int × Int)), ∃ v : Int, ∀ s ∈ st, v < s.2
  | [] => ⟨0, fun _ h => by cases h⟩
  | s :: r => by
    obtain ⟨v, hv⟩ := below_st r
    refine ⟨min v (s.2 - 1), fun t ht => ?_⟩
    rcases List.mem_cons.1 ht with rfl | ht
    · omega
    · have := hv t ht
      omega
theorem below_all : ∀ (zs : List PU), ∃ v : Int, ∀ z ∈ zs, ∀ s ∈ z.st, v < s.2
  | [] => ⟨0, fun _ h => by cases h⟩
  | z :: zs => by
    obtain ⟨v, hv⟩ := below_all zs
    obtain ⟨u, hu⟩ := below_st z.st
    refine ⟨min v u, fun t ht s hs => ?_⟩
    rcases List.mem_cons.1 ht with rfl | ht
    · have := hu s hs
      omega
    · have := hv t ht s hs
      omega
theorem thr_start {zs : List PU} (ho : AllOk zs) : ∃ v, Thr v 0 0 zs (zs.map PU.dn) := by
  obtain ⟨v, hv⟩ := below_all zs
  refine ⟨v, thr_of _ _ _ (by simp) fun j hj => ?_⟩
  have oj := ok_at ho j hj
  have e : (zs.map PU.dn)[j]?.getD 0 = (zs[j]?.getD Z0).dn := by simp [List.getElem?_eq_getElem hj]
  have hm : zs[j]?.getD Z0 ∈ zs := by rw [List.getElem?_eq_getElem hj]; exact List.getElem_mem hj
  have z1 := qle_zero (v := v) fun t ht => hv _ hm t ht
  have z2 := qle_zero (v := v - 1) (st := (zs[j]?.getD Z0).st) fun t ht => by have := hv _ hm t ht; omega
  have hlo : (zs[j]?.getD Z0).lo v = (zs[j]?.getD Z0).dn := by
    unfold PU.lo PU.dn
    rw [z2]
    have := oj.2.1
    split
    · omega
    · rfl
  have hhi : (zs[j]?.getD Z0).hi v = (zs[j]?.getD Z0).dn := by
    unfold PU.hi PU.dn
    rw [z1]
    have := oj.2.1
    split
    · omega
    · rfl
  rw [e, hlo, hhi]
  exact ⟨⟨Int.le_refl _, Int.le_refl _⟩, fun _ => rfl, fun _ => rfl⟩

end En
end Go.Proofs.YtdoeejcmaeefcaaGreat

namespace Go.Proofs.YtdoeejcmaeefcaaGreat
set_option linter.unusedVariables false
set_option linter.unusedSimpArgs false
open Go.RowKit
open Wd

/-- What room answers. -/
def rmV : Option (Int × Int) → Array Value
  | some x => #[.int .i64 x.1, .int .i64 x.2, .bool true]
  | none => #[.int .i64 0, .int .i64 0, .bool false]

theorem notBad {l : List (Int × Int)} (hc : chk true l = 0) {k : Nat} (hk : k < l.length) : 1 ≤ (l[k]?.getD (0, 0)).1 ∧ (l[k]?.getD (0, 0)).1 ≤ 1000000 ∧ -1000000 ≤ (l[k]?.getD (0, 0)).2 ∧ (l[k]?.getD (0, 0)).2 ≤ 1000000 := by
  have hmem : (l[k]?.getD (0, 0)) ∈ l := by rw [List.getElem?_eq_getElem hk]; exact List.getElem_mem _
  have := (chk_ok hc).2.2.2 _ hmem
  unfold Bad at this
  omega

set_option maxRecDepth 100000 in
set_option maxHeartbeats 4000000 in
theorem rroom_any (bus mn up dn start idle spin on q : Int) (A : Option Addr) (n c : Nat) (l : List (Int × Int)) (w : World) (h : StAt w A n l) (hc : chk true l = 0) (hq : 0 ≤ q) (hq2 : q ≤ 1000000000) :
    Calls Tryz.prog 87 #[.agg #[.int .i64 bus, .int .i64 mn, .slice A n c, .int .i64 up, .int .i64 dn, .int .i64 start, .int .i64 idle, .int .i64 spin, .int .i64 on], .int .i64 q] w fun e w' => e = .returned (.tuple (rmV (En.rm l q))) ∧ Below w.heap.size w w' := by
  have HC := Lib.hid hc
  have HST := Lib.hid h
  have HLN := Lib.hid h.1
  have hn3 : n ≤ 3 := by have := (chk_ok hc).2.1; have := h.1; omega
  clear h hc
  go_enter Tryz.func87, Tryz.ntmps87
  go_wp2_with fail
  have hB0 := Blk.new w 39 #[.int .i64 bus, .int .i64 mn, .slice A n c, .int .i64 up, .int .i64 dn, .int .i64 start, .int .i64 idle, .int .i64 spin, .int .i64 on]
  have hBW : Below w.heap.size w (w.alloc (.cells #[.int .i64 bus, .int .i64 mn, .slice A n c, .int .i64 up, .int .i64 dn, .int .i64 start, .int .i64 idle, .int .i64 spin, .int .i64 on] 39)) := (Below.refl _ _).alloc (Nat.le_refl _) _
  have hsz : (w.alloc (.cells #[.int .i64 bus, .int .i64 mn, .slice A n c, .int .i64 up, .int .i64 dn, .int .i64 start, .int .i64 idle, .int .i64 spin, .int .i64 on] 39)).heap.size = w.heap.size + 1 := by simp
  generalize w.alloc (.cells #[.int .i64 bus, .int .i64 mn, .slice A n c, .int .i64 up, .int .i64 dn, .int .i64 start, .int .i64 idle, .int .i64 spin, .int .i64 on] 39) = W at *
  have HSZ := Lib.hid hsz
  clear hsz
  go_loopw [1, 7] (fun tq t wr => ∃ (k : Nat) (p : Int), k ≤ n ∧ t = .int .i64 k ∧ tq = .int .i64 p ∧ 0 ≤ p ∧ p ≤ 1000000000 ∧ Hid (En.rm l q = En.rm (l.drop k) p) ∧ Hid (wr = W)) (fun _ t _ => n - (intOf t).toNat)
  case atStart => exact ⟨0, q, Nat.zero_le _, rfl, rfl, hq, hq2, rfl, rfl⟩
  case round =>
    obtain ⟨k, p, hk, rfl, rfl, hp, hp2, hR, hWR⟩ := hrel
    obtain rfl := hWR.out
    obtain ⟨c0, c1, c2, c3, c4, c5, c6, c7, c8⟩ := hB0.nine
    by_cases hlt : k < n
    · obtain ⟨b, o, rfl, hb, hcell⟩ := HST.out.2.2 (by omega)
      obtain ⟨ck, cp⟩ := hcell k hlt
      have y1 := (hBW.cell (p := ⟨b, o + k * 2, none⟩) hb).trans ck
      have y2 := (hBW.cell (p := ⟨b, o + k * 2 + 1, none⟩) hb).trans cp
      have hki1 : (0 : Int) ≤ (k : Int) := by omega
      have hki2 : (k : Int) < (n : Int) := by omega
      obtain ⟨b1, b2, b3, b4⟩ := notBad HC.out (by rw [HLN.out]; exact hlt)
      have hd := drop_cons (l := l) (k := k) (by rw [HLN.out]; exact hlt)
      have hr := hR.out
      rw [hd, En.rm] at hr
      generalize (l[k]?.getD (0, 0)).1 = x at *
      generalize (l[k]?.getD (0, 0)).2 = y at *
      have HBW := Lib.hid hBW
      clear ck cp hcell hd
      by_cases hpx : p < x
      · rw [if_pos hpx] at hr
        have HR := Lib.hid hr
        have d1 : decide (p < x) = true := by simpa using hpx
        have x1 : IntKind.i64.wrap (x - p) = x - p := IntWalk.i64_in _ (by omega)
        clear hr hBW
        go_wp2_with fail
        go_quiet (fail)
        go_wp2
        go_ret3
        rw [HR.out]
        exact ⟨rfl, below_drewN HBW.out _⟩
      · rw [if_neg hpx] at hr
        have HR := Lib.hid hr
        have d1 : decide (p < x) = false := by simpa using hpx
        have x1 : IntKind.i64.wrap (p - x) = p - x := IntWalk.i64_in _ (by omega)
        clear hr
        go_wp2
        go_roundw
        case rel => exact ⟨k + 1, p - x, by omega, by go_num, rfl, by omega, by omega, HR.out, by first | exact Lib.hid rfl | exact Lib.hid trivial⟩
        case measure => simp [intOf]; omega
    · obtain rfl : k = n := by omega
      have hr := hR.out
      rw [List.drop_of_length_le (by rw [HLN.out]; exact Nat.le_refl _), En.rm] at hr
      have HR := Lib.hid hr
      have HBW := Lib.hid hBW
      clear hr hBW
      go_wp2
      go_ret3
      rw [HR.out]
      exact ⟨rfl, HBW.out⟩

set_option maxRecDepth 100000 in
set_option maxHeartbeats 4000000 in
theorem rpart_any (A : Option Addr) (n c : Nat) (l : List (Int × Int)) (q : Int) (w : World) (h : StAt w A n l) (hc : chk true l = 0) (hq : 0 ≤ q) (hq2 : q ≤ 1000000000) :
    Calls Tryz.prog 88 #[.slice A n c, .int .i64 q] w fun e w' => e = .returned (.int .i64 (En.cst l q)) ∧ w' = w := by
  have HC := Lib.hid hc
  have HST := Lib.hid h
  have HLN := Lib.hid h.1
  have hn3 : n ≤ 3 := by have := (chk_ok hc).2.1; have := h.1; omega
  clear h hc
  go_enter Tryz.func88, Tryz.ntmps88
  go_wp2_with fail
  go_loopw [1, 5, 6] (fun tq ts t wr => ∃ (k : Nat) (p s : Int), k ≤ n ∧ t = .int .i64 k ∧ tq = .int .i64 p ∧ ts = .int .i64 s ∧ 0 ≤ p ∧ p ≤ 1000000000 ∧ -(1000000000000 * (k : Int)) ≤ s ∧ s ≤ 1000000000000 * (k : Int) ∧ Hid (En.cst l q = s + En.cst (l.drop k) p) ∧ wr = w) (fun _ _ t _ => n - (intOf t).toNat)
  case atStart => exact ⟨0, q, 0, Nat.zero_le _, rfl, rfl, rfl, hq, hq2, by omega, by omega, (Int.zero_add _).symm, rfl⟩
  case round =>
    obtain ⟨k, p, s, hk, rfl, rfl, rfl, hp, hp2, hs1, hs2, hR, rfl⟩ := hrel
    by_cases hlt : k < n
    · obtain ⟨b, o, rfl, hb, hcell⟩ := HST.out.2.2 (by omega)
      obtain ⟨y1, y2⟩ := hcell k hlt
      have hki1 : (0 : Int) ≤ (k : Int) := by omega
      have hki2 : (k : Int) < (n : Int) := by omega
      obtain ⟨b1, b2, b3, b4⟩ := notBad HC.out (by rw [HLN.out]; exact hlt)
      have hd := drop_cons (l := l) (k := k) (by rw [HLN.out]; exact hlt)
      have hr := hR.out
      rw [hd, En.cst] at hr
      generalize (l[k]?.getD (0, 0)).1 = x at *
      generalize (l[k]?.getD (0, 0)).2 = y at *
      have m0 : 0 ≤ min p x := by omega
      have m1 : min p x ≤ 1000000 := by omega
      have m2 : min p x ≤ p := by omega
      have hmin : (if x < p then x else p) = min p x := by rw [Int.min_def]; split <;> split <;> omega
      generalize hmz : min p x = z at *
      obtain ⟨z1, z2⟩ : -1000000000000 ≤ z * y ∧ z * y ≤ 1000000000000 := by
        constructor
        · have a1 := Int.mul_le_mul_of_nonneg_left b3 m0
          have a2 := Int.mul_le_mul_of_nonneg_right m1 (show (0 : Int) ≤ 1000000 by omega)
          omega
        · have a1 := Int.mul_le_mul_of_nonneg_left b4 m0
          have a2 := Int.mul_le_mul_of_nonneg_right m1 (show (0 : Int) ≤ 1000000 by omega)
          omega
      have hr2 : En.cst l q = s + z * y + En.cst (l.drop (k + 1)) (p - z) := by rw [hr]; omega
      have hbb : 0 ≤ p - z ∧ p - z ≤ 1000000000 ∧ -(1000000000000 * ((k + 1 : Nat) : Int)) ≤ s + z * y ∧ s + z * y ≤ 1000000000000 * ((k + 1 : Nat) : Int) := by omega
      have HR := Lib.hid hr2
      have HBB := Lib.hid hbb
      clear hr2 hbb
      have x1 : IntKind.i64.wrap (z * y) = z * y := IntWalk.i64_in _ (by omega)
      have x2 : IntKind.i64.wrap (s + z * y) = s + z * y := IntWalk.i64_in _ (by omega)
      have x3 : IntKind.i64.wrap (p - z) = p - z := IntWalk.i64_in _ (by omega)
      clear hr hcell hd
      go_wp2
      go_roundw
      case rel =>
        exact ⟨k + 1, p - z, s + z * y, by omega, by go_num, rfl, rfl, HBB.out.1, HBB.out.2.1, HBB.out.2.2.1, HBB.out.2.2.2, HR.out, by first | exact rfl | exact trivial⟩
      case measure => simp [intOf]; omega
    · obtain rfl : k = n := by omega
      have hr := hR.out
      rw [List.drop_of_length_le (by rw [HLN.out]; exact Nat.le_refl _), En.cst, Int.add_zero] at hr
      have HR := Lib.hid hr
      clear hr
      go_wp2
      go_ret
      rw [HR.out]
      exact ⟨rfl, rfl⟩

end Go.Proofs.YtdoeejcmaeefcaaGreat

namespace Go.Proofs.YtdoeejcmaeefcaaGreat
set_option linter.unusedVariables false
set_option linter.unusedSimpArgs false
open Go.RowKit
open Wd
open En (Pc PU)

set_option maxHeartbeats 2000000 in
theorem ralloc_no (A B : Option Addr) (n c m d : Nat) (us : List Un) (bs : List Bool) (f : Int) (w : World) (h : UsAt w A n us) (h' : BsAt w B m bs) (hm : n ≤ 1000000000000) (hm' : m ≤ 1000000000000) (he : aerr us bs m f ≠ 0) :
    Calls Tryz.prog 73 #[.slice A n c, .slice B m d, .int .i64 f] w fun e w' => e = .returned (.tuple #[.slice none 0 0, .int .i64 (aerr us bs m f)]) ∧ Below w.heap.size w w' := by
  by_cases h1 : echk us m = 0
  · have T := rerange_ok A B n c m d us bs w h h' h1
    have HT := Lib.hid T
    obtain ⟨hn5, hmn, hok⟩ := echk_ok h1
    have hrb := range_bd (us.zip bs) (fun z hz => hok z.1 (List.of_mem_zip hz).1)
    clear T hmn hok
    by_cases h2 : f < 0
    · have e1 : aerr us bs m f = 1 := by unfold aerr; rw [if_neg (by rw [h1]; simp), if_pos h2]
      rw [e1]
      clear e1 he h1 h h' hrb
      have d1 : decide (f < 0) = true := by simpa using h2
      go_enter Tryz.func73, Tryz.ntmps73
      go_wp2_with fail
      refine HT.out.mono ?_
      rintro e w1 ⟨rfl, hb1⟩
      have HB := Lib.hid hb1
      clear hb1 HT
      go_wp2
      go_ret2
      exact ⟨rfl, HB.out⟩
    · have e1 : aerr us bs m f = if f < rmin (us.zip bs) ∨ rmax (us.zip bs) < f then 8 else 0 := by unfold aerr; rw [if_neg (by rw [h1]; simp), if_neg h2]
      have d1 : decide (f < 0) = false := by simpa using h2
      by_cases h3 : f < rmin (us.zip bs)
      · rw [if_pos (Or.inl h3)] at e1
        rw [e1]
        clear e1 he h1 h h' hrb
        generalize rmin (us.zip bs) = lo at *
        generalize rmax (us.zip bs) = hi at *
        have d2 : decide (f < lo) = true := by simpa using h3
        go_enter Tryz.func73, Tryz.ntmps73
        go_wp2_with fail
        refine HT.out.mono ?_
        rintro e w1 ⟨rfl, hb1⟩
        have HB := Lib.hid hb1
        clear hb1 HT
        go_wp2
        go_ret2
        exact ⟨rfl, HB.out⟩
      · have h4 : rmax (us.zip bs) < f := by
          rcases Int.lt_or_le (rmax (us.zip bs)) f with hx | hx
          · exact hx
          · exfalso; exact he (by rw [e1, if_neg (by omega)])
        rw [if_pos (Or.inr h4)] at e1
        rw [e1]
        clear e1 he h1 h h' hrb
        generalize rmin (us.zip bs) = lo at *
        generalize rmax (us.zip bs) = hi at *
        have d2 : decide (f < lo) = false := by simpa using h3
        have d3 : decide (hi < f) = true := by simpa using h4
        go_enter Tryz.func73, Tryz.ntmps73
        go_wp2_with fail
        refine HT.out.mono ?_
        rintro e w1 ⟨rfl, hb1⟩
        have HB := Lib.hid hb1
        clear hb1 HT
        go_wp2
        go_ret2
        exact ⟨rfl, HB.out⟩
  · have T := rerange_no A B n c m d us w h h1
    have e1 : aerr us bs m f = echk us m := by unfold aerr; rw [if_pos h1]
    rw [e1]
    clear e1 he h h'
    generalize echk us m = x at *
    have hx : (x != 0) = true := by simpa using h1
    have HT := Lib.hid T
    clear T h1
    go_enter Tryz.func73, Tryz.ntmps73
    go_wp2_with fail
    refine HT.out.mono ?_
    rintro e w1 ⟨rfl, hb1⟩
    have HB := Lib.hid hb1
    clear hb1 HT
    go_wp2
    go_ret2
    exact ⟨rfl, HB.out⟩

/-- The row of the reference as its loop turns. -/
def Gr (w : World) (g : Nat) (zs : List PU) (f left : Int) (xs : List Int) (wr : World) : Prop :=
  Below w.heap.size w wr ∧ IRow wr g xs ∧ (∃ v u, En.Thr v u 0 zs xs) ∧ En.sumR xs + left = f ∧ xs.length = zs.length
def Gd (w : World) (g : Nat) (zs : List PU) (k : Nat) (wr : World) : Prop := Below w.heap.size w wr ∧ IRow wr g (rowAt zs k)

theorem sum_ge : ∀ (xs : List Int), (∀ i, i < xs.length → 0 ≤ xs[i]?.getD 0) → 0 ≤ En.sumR xs ∧ ∀ i, i < xs.length → xs[i]?.getD 0 ≤ En.sumR xs
  | [], _ => ⟨Int.le_refl _, fun i hi => absurd hi (by simp)⟩
  | x :: xs, h => by
    have h0 := h 0 (by simp)
    obtain ⟨a, b⟩ := sum_ge xs fun i hi => by have := h (i + 1) (by simpa using hi); simpa using this
    simp at h0
    refine ⟨by simp [En.sumR]; omega, fun i hi => ?_⟩
    cases i with
    | zero => simp [En.sumR]; omega
    | succ i =>
      have := b i (by simpa using hi)
      simp [En.sumR]
      omega
theorem Gr.bd {w : World} {g : Nat} {zs : List PU} {f left : Int} {xs : List Int} {wr : World} (ho : En.AllOk zs) (h : Gr w g zs f left xs wr) {i : Nat} (hi : i < zs.length) : 0 ≤ xs[i]?.getD 0 ∧ xs[i]?.getD 0 ≤ f - left := by
  obtain ⟨_, _, ⟨v, u, ht⟩, hs, hl⟩ := h
  have h0 : ∀ i, i < xs.length → 0 ≤ xs[i]?.getD 0 := fun i hi => by
    have t := (En.thr_at ht i (by omega)).1.1
    have o := En.ok_at ho i (by omega)
    have b := PU.box o v
    have d : 0 ≤ (zs[i]?.getD En.Z0).dn := by unfold PU.dn; split; exact o.2.1; exact Int.le_refl _
    omega
  have := (sum_ge xs h0).2 i (by omega)
  exact ⟨h0 i (by omega), by omega⟩
/-- One turn of the reference's loop. -/
theorem Gr.step {w : World} {g : Nat} {zs : List PU} {f left : Int} {xs : List Int} {wr wr' : World} {k : Nat} {much price : Int} (ho : En.AllOk zs) (h : Gr w g zs f left xs wr) (hb : En.Best zs xs zs.length (k : Int) much price) (hm : 0 < much) (hl : 0 < left) (hg : w.heap.size ≤ g) (hkp : Kp wr wr') (hk : k < zs.length) :
    Gr w g zs f (left - min much left) (xs.set k (xs[k]?.getD 0 + min much left)) (wr'.setCell ⟨g, k, none⟩ (.int .i64 (xs[k]?.getD 0 + min much left))) := by
  obtain ⟨h1, h2, ⟨v, u, ht⟩, hs, hlen⟩ := h
  refine ⟨(h1.trans (Below.mono hkp h1.size)).setCell hg _, (h2.below hkp).set k _, ⟨_, _, En.greedy ho ht hb (by omega) (by omega)⟩, ?_, by simpa using hlen⟩
  rw [En.sum_set _ _ _ (by omega)]
  omega
theorem Gr.found {w : World} {g : Nat} {zs : List PU} {f left : Int} {xs : List Int} {wr : World} {a much price : Int} (ho : En.AllOk zs) (h : Gr w g zs f left xs wr) (hb : En.Best zs xs zs.length a much price) (hl : 0 < left) (hf : f ≤ En.sumR (zs.map PU.up)) : ∃ k : Nat, a = (k : Int) ∧ k < zs.length ∧ 0 < much := by
  obtain ⟨h1, h2, ⟨v, u, ht⟩, hs, hlen⟩ := h
  exact hb.found ho ht (by omega)

set_option maxRecDepth 100000 in
set_option maxHeartbeats 8000000 in
theorem ralloc_ok (A B : Option Addr) (n c d : Nat) (us : List Un) (bs : List Bool) (f : Int) (w : World) (h : UsAt w A n us) (h' : BsAt w B n bs) (he : echk us n = 0) (h0 : 0 ≤ f) (h1 : rmin (us.zip bs) ≤ f) (h2 : f ≤ rmax (us.zip bs)) :
    Calls Tryz.prog 73 #[.slice A n c, .slice B n d, .int .i64 f] w fun e w' => ∃ g xs, e = .returned (.tuple #[.slice (some ⟨g, 0, none⟩) n n, .int .i64 0]) ∧ IRow w' g xs ∧ xs.length = n ∧ En.Opt (pus us bs) f xs ∧ w.heap.size ≤ g ∧ Below w.heap.size w w' := by
  have T := rerange_ok A B n c n d us bs w h h' he
  obtain ⟨hn5, hmn, hok⟩ := echk_ok he
  have HT := Lib.hid T
  have hbl := h'.1
  have hul := h.1
  have hzl := pus_len (us := us) (bs := bs) hul hbl
  have hokz : ∀ z ∈ us.zip bs, uchk z.1 = 0 := fun z hz => hok z.1 (List.of_mem_zip hz).1
  obtain ⟨hao, hsl, hsu⟩ := pus_ok hokz
  have hrb := range_bd (us.zip bs) hokz
  have hzz : (us.zip bs).length ≤ 5 := by rw [List.length_zip]; omega
  have q1 : 0 ≤ rmin (us.zip bs) := by omega
  have q2 : rmax (us.zip bs) ≤ 15000000 := by omega
  have hf15 : f ≤ 15000000 := by omega
  have HAO2 : Hid (En.AllOk (pus us bs)) := Lib.hid hao
  have HSL2 : Hid (En.sumR ((pus us bs).map PU.dn) = rmin (us.zip bs)) := Lib.hid hsl
  have HSU2 : Hid (En.sumR ((pus us bs).map PU.up) = rmax (us.zip bs)) := Lib.hid hsu
  have HF2 : Hid (f ≤ rmax (us.zip bs)) := Lib.hid h2
  clear hao hsl hsu hrb hzz hokz
  have HZL := Lib.hid hzl
  have HUL := Lib.hid hul
  have HBL := Lib.hid hbl
  clear hzl hul hbl
  have HOK := Lib.hid hok
  have HU := Lib.hid h
  have HB := Lib.hid h'
  have hn : n ≤ 5 := by omega
  clear T hmn hok h h' he hn5
  have d1 : decide (f < 0) = false := by simpa using h0
  have d2 : decide (f < rmin (us.zip bs)) = false := by simpa using h1
  have d3 : decide (rmax (us.zip bs) < f) = false := by simpa using h2
  have hmk := fun w => run_make_ints n (by omega) w
  have xw : IntKind.i64.wrap (f - rmin (us.zip bs)) = f - rmin (us.zip bs) := IntWalk.i64_in _ (by omega)
  clear h2
  go_enter Tryz.func73, Tryz.ntmps73
  go_wp2_with fail
  refine HT.out.mono ?_
  rintro e w1 ⟨rfl, hb1⟩
  have HB1 := Lib.hid hb1
  clear hb1 HT
  go_wp2_with fail
  have hst : Gd w w1.heap.size (pus us bs) 0 (w1.alloc (.cells (Array.replicate n (.int .i64 0)) 2)) := by
    refine ⟨HB1.out.alloc HB1.out.size _, ?_⟩
    rw [rowAt_zero, HZL.out]; exact IRow.start w1 n
  have hg0 : w.heap.size ≤ w1.heap.size := HB1.out.size
  generalize w1.alloc (.cells (Array.replicate n (.int .i64 0)) 2) = W0 at *
  generalize w1.heap.size = g at *
  have HST0 := Lib.hid hst
  clear hst hmk HB1 d1 d2 d3 xw
  have hlf0 : 0 ≤ f - rmin (us.zip bs) := by omega
  have hlf1 : f - rmin (us.zip bs) ≤ 15000000 := by omega
  generalize hrm : rmin (us.zip bs) = rl at *
  generalize rmax (us.zip bs) = ru at *
  generalize hzs : pus us bs = zs at *
  have HZS := Lib.hid hzs
  clear hzs hrm
  generalize hlf : f - rl = lf at *
  have HLF := Lib.hid hlf
  clear hlf
  go_loopw [13] (fun t wr => ∃ k : Nat, k ≤ n ∧ t = .int .i64 k ∧ Hid (Gd w g zs k wr)) (fun t _ => n - (intOf t).toNat)
  case atStart => exact ⟨0, Nat.zero_le _, rfl, HST0.out⟩
  case round =>
    clear HST0
    obtain ⟨k, hk, rfl, hR⟩ := hrel
    by_cases hlt : k < n
    · obtain ⟨hB, hRow⟩ := hR.out
      obtain ⟨b, o, rfl, hb, hcell⟩ := HU.out.2 (by omega)
      obtain ⟨b', o', rfl, hb', hcell'⟩ := HB.out.2 (by omega)
      have hlen : k < us.length := by have := HUL.out; omega
      have hlenz : k < zs.length := by have := HZL.out; omega
      have hu0 := hcell k hlt
      have hon := (hB.cell (p := ⟨b', o' + k, none⟩) hb').trans (hcell' k hlt)
      have hzk := pus_get (us := us) (bs := bs) (k := k) hlen (by have := HBL.out; omega)
      rw [HZS.out] at hzk
      generalize bs[k]?.getD false = bk at *
      generalize us[k]?.getD U0 = u at *
      obtain ⟨bus, mn, st, up, dn, start, idle, spin, on⟩ := u
      obtain ⟨A', n', c', ⟨h0', h1', h2', h3', h4', h5', h6', h7', h8'⟩, hs, hn'⟩ := hu0
      simp only at h0' h1' h2' h3' h4' h5' h6' h7' h8' hs hzk
      replace h1' := (hB.cell (p := ⟨b, o + k * 9 + 1, none⟩) hb).trans h1'
      have hki1 : (0 : Int) ≤ (k : Int) := by omega
      have hki2 : (k : Int) < (n : Int) := by omega
      clear h0' h2' h3' h4' h5' h6' h7' h8' hcell hcell'
      cases bk
      · have hfin : Gd w g zs (k + 1) wr := ⟨hB, by rw [rowAt_off hlenz (by unfold PU0; rw [hzk]; rfl)]; exact hRow⟩
        have HF := Lib.hid hfin
        clear hfin hR hRow hB hs hzk
        go_wp2
        go_roundw
        case rel => exact ⟨k + 1, by omega, by go_num, HF.out⟩
        case measure => simp [intOf]; omega
      · have hrl : (rowAt zs k).length = zs.length := rowAt_len zs k (by omega)
        have hrc := hRow.cell (i := k) (by omega)
        have hrf := hRow.frozen k
        have hRow3 := hRow.set k mn
        have hdn : (zs[k]?.getD PU0).dn = mn := by unfold PU0; rw [hzk]; rfl
        rw [← hdn, ← rowAt_on hlenz, hdn] at hRow3
        have hfin : Gd w g zs (k + 1) (wr.setCell ⟨g, k, none⟩ (.int .i64 mn)) := ⟨hB.setCell (p := ⟨g, k, none⟩) hg0 (.int .i64 mn), hRow3⟩
        have HF := Lib.hid hfin
        clear hfin hR hRow hRow3 hB hs hzk hdn hrl
        go_wp2
        go_roundw
        case rel => exact ⟨k + 1, by omega, by go_num, HF.out⟩
        case measure => simp [intOf]; omega
    · obtain rfl : k = n := by omega
      have hgr : Gr w g zs f lf (zs.map PU.dn) wr := by
        obtain ⟨hB, hRow⟩ := hR.out
        rw [← HZL.out, rowAt_all] at hRow
        obtain ⟨v, hv⟩ := En.thr_start HAO2.out
        exact ⟨hB, hRow, ⟨v, 0, hv⟩, by have := HSL2.out; have := HLF.out; omega, by simp⟩
      have HGR := Lib.hid hgr
      clear hgr hR
      go_wp2_with fail
      go_loopw [12] (fun t wr => ∃ (left : Int) (xs : List Int), t = .int .i64 left ∧ 0 ≤ left ∧ left ≤ 15000000 ∧ Hid (Gr w g zs f left xs wr)) (fun t _ => (intOf t).toNat)
      case atStart => exact ⟨lf, zs.map PU.dn, rfl, hlf0, hlf1, HGR.out⟩
      case round =>
        clear HGR
        obtain ⟨left, xs, rfl, hl0, hl1, hR⟩ := hrel
        by_cases hlf9 : 0 < left
        · have d1 : decide (0 < left) = true := by simpa using hlf9
          generalize wr = W2 at *
          go_wp2_with fail
          go_loopw [14, 15, 16, 17] (fun t14 t15 t16 t wx => ∃ (i : Nat) (a m p : Int), i ≤ k ∧ t = .int .i64 i ∧ t14 = .int .i64 a ∧ t15 = .int .i64 m ∧ t16 = .int .i64 p ∧ Hid (En.Best zs xs i a m p) ∧ Hid (Kp W2 wx)) (fun _ _ _ t _ => k - (intOf t).toNat)
          case atStart => exact ⟨0, -1, 0, 0, Nat.zero_le _, rfl, rfl, rfl, rfl, En.Best.start _ _ _ _, Kp.refl _⟩
          case round =>
            obtain ⟨i, a, m, p, hi, rfl, rfl, rfl, rfl, hBe, hK⟩ := hrel
            have hGB : Below w.heap.size w wr := hR.out.1.trans (Below.mono hK.out hR.out.1.size)
            by_cases hik : i < k
            · obtain ⟨b, o, rfl, hb, hcell⟩ := HU.out.2 (by omega)
              obtain ⟨b', o', rfl, hb', hcell'⟩ := HB.out.2 (by omega)
              have hlen : i < us.length := by have := HUL.out; omega
              have hlenz : i < zs.length := by have := HZL.out; omega
              have hu0 := hcell i hik
              have hon := (hGB.cell (p := ⟨b', o' + i, none⟩) hb').trans (hcell' i hik)
              have hzk := pus_get (us := us) (bs := bs) (k := i) hlen (by have := HBL.out; omega)
              rw [HZS.out] at hzk
              obtain ⟨hx0, hx1⟩ := Gr.bd HAO2.out hR.out hlenz
              have hrow := (hR.out.2.1.below hK.out).cell (i := i) (by rw [hR.out.2.2.2.2]; exact hlenz)
              have hrlt := Blk.lt (hR.out.2.1.below hK.out)
              have hmem : (us[i]?.getD U0) ∈ us := by rw [List.getElem?_eq_getElem hlen]; exact List.getElem_mem _
              have huk := (uchk_ok (HOK.out _ hmem)).1
              have hoff := hBe.out.off
              have hkeep := fun n q ha hr hq => hBe.out.keep (n := n) (q := q) ha hr hq
              have htake := fun n q ho hr hq => hBe.out.take (n := n) (q := q) ho hr hq
              unfold En.Z0 at hoff hkeep htake
              rw [hzk] at hoff hkeep htake
              simp only at hoff hkeep htake
              generalize xs[i]?.getD 0 = x at *
              generalize bs[i]?.getD false = bk at *
              generalize us[i]?.getD U0 = u at *
              obtain ⟨bus, mn, st, up, dn, start, idle, spin, on⟩ := u
              obtain ⟨A', n', c', ⟨h0', h1', h2', h3', h4', h5', h6', h7', h8'⟩, hs, hn'⟩ := hu0
              simp only at h0' h1' h2' h3' h4' h5' h6' h7' h8' hs hoff hkeep htake huk
              replace h0' := (hGB.cell (p := ⟨b, o + i * 9, none⟩) hb).trans h0'
              replace h1' := (hGB.cell (p := ⟨b, o + i * 9 + 1, none⟩) hb).trans h1'
              replace h2' := (hGB.cell (p := ⟨b, o + i * 9 + 2, none⟩) hb).trans h2'
              replace h3' := (hGB.cell (p := ⟨b, o + i * 9 + 3, none⟩) hb).trans h3'
              replace h4' := (hGB.cell (p := ⟨b, o + i * 9 + 4, none⟩) hb).trans h4'
              replace h5' := (hGB.cell (p := ⟨b, o + i * 9 + 5, none⟩) hb).trans h5'
              replace h6' := (hGB.cell (p := ⟨b, o + i * 9 + 6, none⟩) hb).trans h6'
              replace h7' := (hGB.cell (p := ⟨b, o + i * 9 + 7, none⟩) hb).trans h7'
              replace h8' := (hGB.cell (p := ⟨b, o + i * 9 + 8, none⟩) hb).trans h8'
              have hbr : b < wr.heap.size := Nat.lt_of_lt_of_le hb hGB.size
              have hki1 : (0 : Int) ≤ (i : Int) := by omega
              have hki2 : (i : Int) < (k : Int) := by omega
              clear hcell hcell' hzk hmem
              cases bk
              · have HN := Lib.hid (hoff (fun h => by cases h))
                clear hoff hkeep htake hs h0' h1' h2' h3' h4' h5' h6' h7' h8' hrow hrlt huk hGB
                go_wp2
                go_roundw
                case rel => exact ⟨i + 1, a, m, p, by omega, by go_num, rfl, rfl, rfl, HN.out, hK.out⟩
                case measure => simp [intOf]; omega
              · have T := fun W (hW : StAt W A' n' st) => rroom_any bus mn up dn start idle spin on x A' n' c' st W hW huk hx0 (by omega)
                have HSS := Lib.hid (hs.below hGB)
                have y0 := fun s : KW wr => (Below.cell s.h (p := ⟨b, o + i * 9, none⟩) hbr).trans h0'
                have y1 := fun s : KW wr => (Below.cell s.h (p := ⟨b, o + i * 9 + 1, none⟩) hbr).trans h1'
                have y2 := fun s : KW wr => (Below.cell s.h (p := ⟨b, o + i * 9 + 2, none⟩) hbr).trans h2'
                have y3 := fun s : KW wr => (Below.cell s.h (p := ⟨b, o + i * 9 + 3, none⟩) hbr).trans h3'
                have y4 := fun s : KW wr => (Below.cell s.h (p := ⟨b, o + i * 9 + 4, none⟩) hbr).trans h4'
                have y5 := fun s : KW wr => (Below.cell s.h (p := ⟨b, o + i * 9 + 5, none⟩) hbr).trans h5'
                have y6 := fun s : KW wr => (Below.cell s.h (p := ⟨b, o + i * 9 + 6, none⟩) hbr).trans h6'
                have y7 := fun s : KW wr => (Below.cell s.h (p := ⟨b, o + i * 9 + 7, none⟩) hbr).trans h7'
                have y8 := fun s : KW wr => (Below.cell s.h (p := ⟨b, o + i * 9 + 8, none⟩) hbr).trans h8'
                have y9 := fun s : KW wr => (Below.cell s.h (p := ⟨g, i, none⟩) hrlt).trans hrow
                have hcase : (En.rm st x = none ∧ En.Best zs xs (i + 1) a m p) ∨ (∃ rn rp, En.rm st x = some (rn, rp) ∧ ((a < 0 ∧ En.Best zs xs (i + 1) (i : Int) rn rp) ∨ (¬ a < 0 ∧ rp ≤ p ∧ En.Best zs xs (i + 1) (i : Int) rn rp) ∨ (¬ a < 0 ∧ ¬ rp ≤ p ∧ En.Best zs xs (i + 1) a m p))) := by
                  cases hr : En.rm st x with
                  | none => exact Or.inl ⟨rfl, hoff fun _ => hr⟩
                  | some v =>
                    obtain ⟨rn, rp⟩ := v
                    refine Or.inr ⟨rn, rp, rfl, ?_⟩
                    by_cases ha : a < 0
                    · exact Or.inl ⟨ha, htake rn rp rfl hr (Or.inl ha)⟩
                    · by_cases hp : rp ≤ p
                      · exact Or.inr (Or.inl ⟨ha, hp, htake rn rp rfl hr (Or.inr hp)⟩)
                      · exact Or.inr (Or.inr ⟨ha, hp, hkeep rn rp (by omega) hr (by omega)⟩)
                clear hoff hkeep htake hs h0' h1' h2' h3' h4' h5' h6' h7' h8' hrow huk
                have HGB := Lib.hid hGB
                clear hGB
                rcases hcase with ⟨hr, hN⟩ | ⟨rn, rp, hr, ⟨ha, hN⟩ | ⟨ha, hp, hN⟩ | ⟨ha, hp, hN⟩⟩
                · rw [hr] at T
                  simp only [rmV] at T
                  have HT := Lib.hid T
                  have HN := Lib.hid hN
                  clear T hN hr
                  go_wp2_with fail
                  try simp only [List.append_eq, List.cons_append, List.nil_append]
                  refine wp_region_kw (W := wr) (by kernel_rfl) (by kernel_rfl) ?_
                  repeat (go_big_quiet_step ((go_at_call 87; exact kw_call (HT.out _ (HSS.out.below (KW.h _))))))
                  refine wpQuiet_nil ?_
                  intro v1 hw1
                  have hv1 : Kp wr v1 := by obtain ⟨s, rfl⟩ := hw1; exact s.h
                  have HV := Lib.hid (Kp.trans hK.out hv1)
                  clear hw1 hv1 y0 y1 y2 y3 y4 y5 y6 y7 y8 y9 HT HSS HGB hBe hR
                  go_wp2
                  go_roundw
                  case rel => exact ⟨i + 1, a, m, p, by omega, by go_num, rfl, rfl, rfl, HN.out, HV.out⟩
                  case measure => simp [intOf]; omega
                · rw [hr] at T
                  simp only [rmV] at T
                  have HT := Lib.hid T
                  have HN := Lib.hid hN
                  have da : decide (a < 0) = true := by simpa using ha
                  clear T hN hr
                  go_wp2_with fail
                  try simp only [List.append_eq, List.cons_append, List.nil_append]
                  refine wp_region_kw (W := wr) (by kernel_rfl) (by kernel_rfl) ?_
                  repeat (go_big_quiet_step ((go_at_call 87; exact kw_call (HT.out _ (HSS.out.below (KW.h _))))))
                  refine wpQuiet_nil ?_
                  intro v1 hw1
                  have hv1 : Kp wr v1 := by obtain ⟨s, rfl⟩ := hw1; exact s.h
                  have HV := Lib.hid (Kp.trans hK.out hv1)
                  clear hw1 hv1 y0 y1 y2 y3 y4 y5 y6 y7 y8 y9 HT HSS HGB hBe hR
                  go_wp2
                  go_roundw
                  case rel => exact ⟨i + 1, i, rn, rp, by omega, by go_num, rfl, rfl, rfl, HN.out, HV.out⟩
                  case measure => simp [intOf]; omega
                · rw [hr] at T
                  simp only [rmV] at T
                  have HT := Lib.hid T
                  have HN := Lib.hid hN
                  have da : decide (a < 0) = false := by simpa using ha
                  have dp : decide (rp ≤ p) = true := by simpa using hp
                  clear T hN hr
                  go_wp2_with fail
                  try simp only [List.append_eq, List.cons_append, List.nil_append]
                  refine wp_region_kw (W := wr) (by kernel_rfl) (by kernel_rfl) ?_
                  repeat (go_big_quiet_step ((go_at_call 87; exact kw_call (HT.out _ (HSS.out.below (KW.h _))))))
                  refine wpQuiet_nil ?_
                  intro v1 hw1
                  have hv1 : Kp wr v1 := by obtain ⟨s, rfl⟩ := hw1; exact s.h
                  have HV := Lib.hid (Kp.trans hK.out hv1)
                  clear hw1 hv1 y0 y1 y2 y3 y4 y5 y6 y7 y8 y9 HT HSS HGB hBe hR
                  go_wp2
                  go_roundw
                  case rel => exact ⟨i + 1, i, rn, rp, by omega, by go_num, rfl, rfl, rfl, HN.out, HV.out⟩
                  case measure => simp [intOf]; omega
                · rw [hr] at T
                  simp only [rmV] at T
                  have HT := Lib.hid T
                  have HN := Lib.hid hN
                  have da : decide (a < 0) = false := by simpa using ha
                  have dp : decide (rp ≤ p) = false := by simpa using hp
                  clear T hN hr
                  go_wp2_with fail
                  try simp only [List.append_eq, List.cons_append, List.nil_append]
                  refine wp_region_kw (W := wr) (by kernel_rfl) (by kernel_rfl) ?_
                  repeat (go_big_quiet_step ((go_at_call 87; exact kw_call (HT.out _ (HSS.out.below (KW.h _))))))
                  refine wpQuiet_nil ?_
                  intro v1 hw1
                  have hv1 : Kp wr v1 := by obtain ⟨s, rfl⟩ := hw1; exact s.h
                  have HV := Lib.hid (Kp.trans hK.out hv1)
                  clear hw1 hv1 y0 y1 y2 y3 y4 y5 y6 y7 y8 y9 HT HSS HGB hBe hR
                  go_wp2
                  go_roundw
                  case rel => exact ⟨i + 1, a, m, p, by omega, by go_num, rfl, rfl, rfl, HN.out, HV.out⟩
                  case measure => simp [intOf]; omega
            · obtain rfl : i = k := by omega
              have hbe : En.Best zs xs zs.length a m p := by rw [HZL.out]; exact hBe.out
              obtain ⟨j, rfl, hj, hm0⟩ := Gr.found HAO2.out hR.out hbe hlf9 (by rw [HSU2.out]; exact HF2.out)
              have hst := Gr.step HAO2.out hR.out hbe hm0 hlf9 hg0 hK.out hj
              obtain ⟨hx0, hx1⟩ := Gr.bd HAO2.out hR.out hj
              have hrow := (hR.out.2.1.below hK.out).cell (i := j) (by rw [hR.out.2.2.2.2]; exact hj)
              have hfrz := (hR.out.2.1.below hK.out).frozen j
              have hji : j < i := by rw [← HZL.out]; exact hj
              have hki1 : (0 : Int) ≤ (j : Int) := by omega
              have hki2 : (j : Int) < (i : Int) := by omega
              have m1 : 0 < min m left := by omega
              have m2 : min m left ≤ left := by omega
              generalize xs[j]?.getD 0 = x at *
              have x1 : IntKind.i64.wrap (x + min m left) = x + min m left := IntWalk.i64_in _ (by omega)
              have x2 : IntKind.i64.wrap (left - min m left) = left - min m left := IntWalk.i64_in _ (by omega)
              have HS := Lib.hid hst
              clear hst hbe hBe hR hGB hK
              go_wp2
              go_roundw
              case rel => exact ⟨left - min m left, _, by go_num, by omega, by omega, HS.out⟩
              case measure => simp [intOf]; omega
        · obtain rfl : left = 0 := by omega
          have HF := Lib.hid hR.out
          clear hR
          go_wp2
          go_ret2
          obtain ⟨f1, f2, f3, f4, f5⟩ := HF.out
          refine ⟨g, rfl, xs, f2, by rw [f5]; exact HZL.out, ⟨by omega, ?_⟩, hg0, f1⟩
          rw [HZS.out]
          exact f3

end Go.Proofs.YtdoeejcmaeefcaaGreat
