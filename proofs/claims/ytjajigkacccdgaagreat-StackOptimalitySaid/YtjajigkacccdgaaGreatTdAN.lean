/-
Plain law of words in base 2^32: carried sums, differences, division by one word, the digit that a long division guesses. The iterator over the words of two magnitudes (package whole). A region that draws its order inside a round of a range over a function: it may be walked as outside of it, with loads taken first. No statement of the seat is proved here; no conditions beyond those of each theorem.
-/
import Derived.Test.YtjajigkacccdgaaGreatTdAC
import Derived.RangeFuncBox
import Derived.RangeFuncNested
import Derived.RangeFuncLeaves
import Derived.Shelf.Abstract
import Derived.OwnWalkIn
import Derived.TacticsInMore
import Derived.LoopNIn
import Derived.LoopIn
import Derived.Maps.AppendAt
import Derived.OrdersIn
import Derived.OrdersHeld
import Derived.Deep.RegionHeld3
namespace Go.Proofs.YtjajigkacccdgaaGreat
namespace Wd
set_option linter.unusedVariables false
set_option linter.unusedSimpArgs false

/-- The words of numbers with a carry c, and the carry behind them. -/
def cdig : Nat → List Nat → List Nat
 | _, [] => []
 | c, t :: ts => (t + c) % 4294967296 :: cdig ((t + c) / 4294967296) ts
def cout : Nat → List Nat → Nat
 | c, [] => c
 | c, t :: ts => cout ((t + c) / 4294967296) ts
theorem cdig_snoc : ∀ (c : Nat) (ts : List Nat) (t : Nat), cdig c (ts ++ [t]) = cdig c ts ++ [(t + cout c ts) % 4294967296]
 | _, [], _ => rfl
 | c, s :: ts, t => by rw [List.cons_append, cdig, cdig_snoc, cdig, cout, List.cons_append]
theorem cout_snoc : ∀ (c : Nat) (ts : List Nat) (t : Nat), cout c (ts ++ [t]) = (t + cout c ts) / 4294967296
 | _, [], _ => rfl
 | c, s :: ts, t => by rw [List.cons_append, cout, cout_snoc, cout]
theorem cdig_len : ∀ (c : Nat) (ts : List Nat), (cdig c ts).length = ts.length
 | _, [] => rfl
 | c, t :: ts => by rw [cdig, List.length_cons, cdig_len, List.length_cons]
theorem cdig_Ws : ∀ (c : Nat) (ts : List Nat), Ws (cdig c ts)
 | _, [] => Ws.nil
 | c, t :: ts => by rw [cdig]; exact Ws.cons (Nat.mod_lt _ (by decide)) (cdig_Ws _ _)
theorem cdig_val : ∀ (c : Nat) (ts : List Nat), val (cdig c ts) + 4294967296 ^ ts.length * cout c ts = c + val ts
 | c, [] => by simp [cdig, cout, val_nil]
 | c, t :: ts => by
  have ih := cdig_val ((t + c) / 4294967296) ts
  have hd := Nat.div_add_mod (t + c) 4294967296
  rw [cdig, cout, val_cons, val_cons, List.length_cons, Nat.pow_succ, Nat.mul_comm (4294967296 ^ ts.length) 4294967296, Nat.mul_assoc]
  have e : 4294967296 * val (cdig ((t + c) / 4294967296) ts) + 4294967296 * (4294967296 ^ ts.length * cout ((t + c) / 4294967296) ts) = 4294967296 * ((t + c) / 4294967296) + 4294967296 * val ts := by
   rw [← Nat.mul_add, ih, Nat.mul_add]
  omega
theorem cout_lt {K : Nat} (hK : 0 < K) : ∀ {c : Nat} {ts : List Nat}, c < K → (∀ t ∈ ts, t ≤ 4294967296 * K - K) → cout c ts < K
 | _, [], hc, _ => hc
 | c, t :: ts, hc, h => by
  rw [cout]
  refine cout_lt hK ?_ fun s hs => h s (List.mem_cons_of_mem _ hs)
  have := h t (List.mem_cons_self ..)
  rw [Nat.div_lt_iff_lt_mul (by decide), Nat.mul_comm]
  omega
theorem val_range_get : ∀ (l : List Nat) (m : Nat), l.length ≤ m → val ((List.range m).map fun i => l[i]?.getD 0) = val l
 | [], m, _ => by
  have e : (List.range m).map (fun i => ([] : List Nat)[i]?.getD 0) = List.replicate m 0 := by
   apply List.ext_getElem (by simp)
   intro i h1 h2
   simp
  rw [e, val_replicate_zero, val_nil]
 | d :: l, 0, h => by simp at h
 | d :: l, m + 1, h => by
  rw [List.range_succ_eq_map, List.map_cons, List.map_map, val_cons, val_cons]
  have ih := val_range_get l m (by simpa using h)
  have e : (List.range m).map ((fun i => (d :: l)[i]?.getD 0) ∘ Nat.succ) = (List.range m).map fun i => l[i]?.getD 0 := List.map_congr_left fun i _ => by simp
  rw [e, ih]
  rfl
theorem val_map_add {α : Type} (f g : α → Nat) : ∀ l : List α, val (l.map fun i => f i + g i) = val (l.map f) + val (l.map g)
 | [] => rfl
 | x :: l => by rw [List.map_cons, val_cons, val_map_add f g l, List.map_cons, val_cons, List.map_cons, val_cons, Nat.mul_add]; omega
theorem val_map_mul {α : Type} (f : α → Nat) (k : Nat) : ∀ l : List α, val (l.map fun i => f i * k) = val (l.map f) * k
 | [] => by simp [val_nil]
 | x :: l => by rw [List.map_cons, val_cons, val_map_mul f k l, List.map_cons, val_cons, Nat.add_mul, Nat.mul_assoc]
/-- The sums of words at the same place. -/
def sumW (a b : List Nat) (m : Nat) : List Nat := (List.range m).map fun i => a[i]?.getD 0 + b[i]?.getD 0
theorem val_sumW (a b : List Nat) : val (sumW a b (max a.length b.length)) = val a + val b := by
 unfold sumW
 rw [val_map_add, val_range_get a _ (by omega), val_range_get b _ (by omega)]
/-- The words of a with the complements of those of b. -/
def difW (a b : List Nat) (m : Nat) : List Nat := (List.range m).map fun i => a[i]?.getD 0 + (4294967295 - b[i]?.getD 0)
theorem val_const (m : Nat) : val ((List.range m).map fun _ => 4294967295) + 1 = 4294967296 ^ m := by
 induction m with
 | zero => rfl
 | succ m ih =>
  rw [List.range_succ, List.map_append, List.map_cons, List.map_nil, val_snoc, List.length_map, List.length_range, Nat.pow_succ]
  omega
theorem val_difW {a b : List Nat} (hb : Ws b) : 1 + val (difW a b (max a.length b.length)) + val b = val a + 4294967296 ^ (max a.length b.length) := by
 generalize hm : max a.length b.length = m
 have h1 := val_range_get a m (by omega)
 have h2 := val_range_get b m (by omega)
 have h3 := val_const m
 have e : val (difW a b m) + val ((List.range m).map fun i => b[i]?.getD 0) = val ((List.range m).map fun i => a[i]?.getD 0) + val ((List.range m).map fun _ => 4294967295) := by
  unfold difW
  rw [← val_map_add, ← val_map_add]
  congr 1
  refine List.map_congr_left fun i _ => ?_
  have := hb.get i
  omega
 omega
theorem dif_val {a b : List Nat} (ha : Ws a) (hb : Ws b) (h : val b ≤ val a) : val (cdig 1 (difW a b (max a.length b.length))) = val a - val b := by
 have h1 := cdig_val 1 (difW a b (max a.length b.length))
 have h2 := val_difW (a := a) hb
 have h3 := val_lt (cdig_Ws 1 (difW a b (max a.length b.length)))
 have h4 : (difW a b (max a.length b.length)).length = max a.length b.length := by simp [difW]
 rw [cdig_len, h4] at h3
 rw [h4] at h1
 have h5 : val a < 4294967296 ^ max a.length b.length := Nat.lt_of_lt_of_le (val_lt ha) (Nat.pow_le_pow_right (by decide) (by omega))
 generalize 4294967296 ^ max a.length b.length = P at *
 generalize cout 1 (difW a b (max a.length b.length)) = c at *
 generalize val (cdig 1 (difW a b (max a.length b.length))) = x at *
 have hc : c = 1 := by
  rcases Nat.lt_trichotomy c 1 with h | h | h
  ·have : c = 0 := by omega
   subst this
   omega
  ·exact h
  ·have : P * 2 ≤ P * c := Nat.mul_le_mul_left P (by omega)
   omega
 subst hc
 omega
theorem add_val (a b : List Nat) : val (cdig 0 (sumW a b (max a.length b.length) ++ [0])) = val a + val b ∨ 4294967296 ^ (max a.length b.length + 1) ≤ val a + val b := by
 have h1 := cdig_val 0 (sumW a b (max a.length b.length) ++ [0])
 rw [val_snoc_zero, val_sumW] at h1
 have h4 : (sumW a b (max a.length b.length) ++ [0]).length = max a.length b.length + 1 := by simp [sumW]
 rw [h4] at h1
 generalize cout 0 (sumW a b (max a.length b.length) ++ [0]) = c at *
 cases c with
 | zero => left; omega
 | succ c =>
  right
  rw [Nat.mul_add] at h1
  omega
theorem add_val' {a b : List Nat} (ha : Ws a) (hb : Ws b) : val (cdig 0 (sumW a b (max a.length b.length) ++ [0])) = val a + val b := by
 rcases add_val a b with h | h
 ·exact h
 ·exfalso
  have h1 : val a < 4294967296 ^ max a.length b.length := Nat.lt_of_lt_of_le (val_lt ha) (Nat.pow_le_pow_right (by decide) (by omega))
  have h2 : val b < 4294967296 ^ max a.length b.length := Nat.lt_of_lt_of_le (val_lt hb) (Nat.pow_le_pow_right (by decide) (by omega))
  rw [Nat.pow_succ] at h
  omega

/-- The guess of a long division: never too small, and at most one too great. V = (f B + s) P + vl, U = (t B + u) P + ul. -/
theorem est_first {f s P vl t u ul U V : Nat} (hV : V = (f * 4294967296 + s) * P + vl) (hU : U = (t * 4294967296 + u) * P + ul) (hul : ul < P) (hvl : vl < P) (hu : u < 4294967296) (hs : s < 4294967296) (hf : 4294967296 ≤ 2 * f) (hlt : U < 4294967296 * V) :
  U / V ≤ t / f ∧ t / f ≤ 4294967297 := by
 have hP : 0 < P := by omega
 constructor
 ·rw [Nat.le_div_iff_mul_le (by omega)]
  have h1 := Nat.div_mul_le_self U V
  generalize U / V = q at *
  have h2 : q * (f * 4294967296 * P) ≤ q * V := Nat.mul_le_mul_left q (by rw [hV, Nat.add_mul]; omega)
  have h3 : U < (t + 1) * 4294967296 * P := by
   have : (t * 4294967296 + u) * P + P ≤ (t + 1) * 4294967296 * P := by
    rw [← Nat.succ_mul]
    exact Nat.mul_le_mul_right P (by omega)
   omega
  have h4 : q * f * (4294967296 * P) < (t + 1) * (4294967296 * P) := by
   rw [Nat.mul_assoc q f, ← Nat.mul_assoc f 4294967296 P, ← Nat.mul_assoc (t + 1) 4294967296 P]
   omega
  have := Nat.lt_of_mul_lt_mul_right h4
  omega
 ·have h3 : V < (f + 1) * 4294967296 * P := by
   have : (f * 4294967296 + s) * P + P ≤ (f + 1) * 4294967296 * P := by
    rw [← Nat.succ_mul]
    exact Nat.mul_le_mul_right P (by omega)
   omega
  have h4 : t * 4294967296 * P ≤ U := by rw [hU, Nat.add_mul]; omega
  have h5 : t * (4294967296 * P) < 4294967296 * (f + 1) * (4294967296 * P) := by
   rw [← Nat.mul_assoc t, Nat.mul_assoc 4294967296 (f + 1), ← Nat.mul_assoc (f + 1)]
   omega
  have h6 := Nat.lt_of_mul_lt_mul_right h5
  have : t / f < 4294967298 := by
   rw [Nat.div_lt_iff_lt_mul (by omega)]
   omega
  omega
theorem est_over {f s P vl t u ul U V g : Nat} (hV : V = (f * 4294967296 + s) * P + vl) (hU : U = (t * 4294967296 + u) * P + ul) (hul : ul < P) (hV0 : 0 < V) (hg : t * 4294967296 + u < g * (f * 4294967296 + s)) : U / V < g := by
 rw [Nat.div_lt_iff_lt_mul hV0]
 have h1 : (t * 4294967296 + u + 1) * P ≤ g * (f * 4294967296 + s) * P := Nat.mul_le_mul_right P hg
 have h2 : g * (f * 4294967296 + s) * P ≤ g * V := by
  have h0 : (f * 4294967296 + s) * P ≤ V := by rw [hV]; exact Nat.le_add_right _ _
  rw [Nat.mul_assoc]
  exact Nat.mul_le_mul_left g h0
 rw [Nat.add_mul, Nat.one_mul] at h1
 omega
theorem est_done {f s P vl t u ul U V g : Nat} (hV : V = (f * 4294967296 + s) * P + vl) (hU : U = (t * 4294967296 + u) * P + ul) (hvl : vl < P) (hf : 0 < f) (hg : g * (f * 4294967296 + s) ≤ t * 4294967296 + u) (hgB : g ≤ 4294967296) : g ≤ U / V + 1 := by
 have hP : 0 < P := by omega
 have hVB : 4294967296 * P ≤ V := by
  have : 1 * 4294967296 * P ≤ f * 4294967296 * P := Nat.mul_le_mul_right P (Nat.mul_le_mul_right _ hf)
  rw [hV, Nat.add_mul]
  omega
 have hV0 : 0 < V := Nat.lt_of_lt_of_le (Nat.mul_pos (by decide) hP) hVB
 have h1 : g * (f * 4294967296 + s) * P ≤ (t * 4294967296 + u) * P := Nat.mul_le_mul_right P hg
 have h2 : g * vl ≤ 4294967296 * P := Nat.mul_le_mul hgB (by omega)
 have h3 : g * V ≤ U + V := by
  rw [show g * V = g * (f * 4294967296 + s) * P + g * vl by rw [hV, Nat.mul_add, Nat.mul_assoc]]
  omega
 cases g with
 | zero => exact Nat.zero_le _
 | succ g =>
  have : g * V ≤ U := by rw [Nat.succ_mul] at h3; omega
  have := (Nat.le_div_iff_mul_le hV0).2 this
  omega

end Wd
end Go.Proofs.YtjajigkacccdgaaGreat

namespace Go.Proofs.YtjajigkacccdgaaGreat
set_option linter.unusedVariables false
set_option linter.unusedSimpArgs false
open Go.RowKit Go.Shelf
open Wd
attribute [local go_sem] Oper.semAt_some

/-- Two words at the same place. -/
abbrev PW := { p : Nat × Nat // p.1 < 4294967296 ∧ p.2 < 4294967296 }
def PW.enc (x : PW) : Array Value := #[.int .u64 (x.1.1 : Int), .int .u64 (x.1.2 : Int)]
def pw (l l' : List Nat) (h : Ws l) (h' : Ws l') (i : Nat) : PW := ⟨(l[i]?.getD 0, l'[i]?.getD 0), h.get i, h'.get i⟩
def pws (l l' : List Nat) (h : Ws l) (h' : Ws l') (k : Nat) : List PW := (List.range k).map (pw l l' h h')
theorem pws_succ (l l' : List Nat) (h : Ws l) (h' : Ws l') (k : Nat) : pws l l' h h' (k + 1) = pws l l' h h' k ++ [pw l l' h h' k] := by simp [pws, List.range_succ]
theorem pws_length (l l' : List Nat) (h : Ws l) (h' : Ws l') (k : Nat) : (pws l l' h h' k).length = k := by simp [pws]

/-- Words below block n₀, for the iterator. -/
def WatB (n₀ : Nat) (w : World) (A : Option Addr) (n : Nat) (l : List Nat) : Prop :=
 l.length = n ∧ (n ≠ 0 → ∃ b o, A = some ⟨b, o, none⟩ ∧ b < n₀ ∧ ∀ j, j < n → w.cell? ⟨b, o + j, none⟩ = some (.int .u32 ((l[j]?.getD 0 : Nat) : Int)))
theorem WatB.below {n₀ : Nat} {w w' : World} {A : Option Addr} {n : Nat} {l : List Nat} (h : WatB n₀ w A n l) (hb : Below n₀ w w') : WatB n₀ w' A n l := by
 refine ⟨h.1, fun hn => ?_⟩
 obtain ⟨b, o, rfl, hlt, hc⟩ := h.2 hn
 exact ⟨b, o, rfl, hlt, fun j hj => (hb.cell hlt).trans (hc j hj)⟩
theorem Wat.b {w : World} {A : Option Addr} {n : Nat} {l : List Nat} (h : Wat w A n l) : WatB w.heap.size w A n l := ⟨h.1, h.2.2⟩

/-- What lay below n₀ and the two boxes are kept. -/
def KpB (n₀ Ba Bb : Nat) (W W' : World) : Prop := Below n₀ W W' ∧ W'.heap[Ba]? = W.heap[Ba]? ∧ W'.heap[Bb]? = W.heap[Bb]?
theorem KpB.trans {n₀ Ba Bb : Nat} {A B C : World} (h : KpB n₀ Ba Bb A B) (k : KpB n₀ Ba Bb B C) : KpB n₀ Ba Bb A C := ⟨h.1.trans k.1, k.2.1.trans h.2.1, k.2.2.trans h.2.2⟩
theorem KpB.refl (n₀ Ba Bb : Nat) (A : World) : KpB n₀ Ba Bb A A := ⟨Below.refl _ _, rfl, rfl⟩
theorem KpB.put {n₀ Ba Bb : Nat} {w : World} (hn : n₀ ≤ w.heap.size) (ha : Ba < w.heap.size) (hb : Bb < w.heap.size) (W : World) (l : Nat) (o o' : Obj) (hl : w.heap.size ≤ l) (h : W.heap[l]? = some o) (hc : o.isCells = false) (hw : o.isWalk = false) : KpB n₀ Ba Bb W (W.putObj l o') := by
 have hbl : Below w.heap.size W (W.putObj l o') := belowK_b (w := w) (Nat.le_refl _) W l o o' hl h hc hw
 exact ⟨hbl.mono hn, hbl.block Ba ha, hbl.block Bb hb⟩

set_option maxRecDepth 100000 in
set_option maxHeartbeats 4000000 in
theorem pairs1_in (n : Nat) (hn : 1 ≤ n) (r Ba Bb n₀ : Nat) (A A' : Option Addr) (la lb ca cb : Nat) (l l' : List Nat) (h : Ws l) (h' : Ws l') (J Jx : List PW → World → Prop) (hla : la ≤ 10000000000) (hlb : lb ≤ 10000000000)
  (hY : ∀ pre x W, J pre W → pre.length < max la lb → YieldAt Fence.wide (n - 1) Tryz.prog r x.enc W fun e W' =>
   (e = .returned (.bool true) ∧ J (pre ++ [x]) W' ∧ KpB n₀ Ba Bb W W') ∨ (e = .returned (.bool false) ∧ Jx (pre ++ [x]) W'))
  (W : World) (hBa : W.cell? ⟨Ba, 0, none⟩ = some (.slice A la ca)) (hBb : W.cell? ⟨Bb, 0, none⟩ = some (.slice A' lb cb)) (ha : WatB n₀ W A la l) (hb : WatB n₀ W A' lb l') (h0 : J [] W) :
  CallsIn Fence.wide n Tryz.prog 226 #[.func (.yield r) #[] #[], .pointer (some ⟨Ba, 0, none⟩), .pointer (some ⟨Bb, 0, none⟩)] W fun e W' => (∃ v, e = .returned v) ∧
   ((∃ ys, ys = pws l l' h h' (max la lb) ∧ J ys W') ∨ (∃ pre, (∃ k, k ≤ max la lb ∧ pre = pws l l' h h' k) ∧ Jx pre W')) := by
 by_cases hcmp : la < lb
 ·have emax : max la lb = lb := by omega
  rw [emax] at hY ⊢
  have EM := Lib.hid emax
  clear emax
  refine callsIn_of_wp Tryz.func226 rfl trivial ?_ rfl
  simp only [Tryz.ntmps226, List.size_toArray, List.length_cons, List.length_nil, Nat.reduceAdd, Nat.reduceSub, Array.replicate_succ, Array.replicate_zero, List.push_toArray, List.append_toArray, List.nil_append, List.cons_append]
  gi_wp2
  gi_loopw [12] (fun i wr => ∃ k : Nat, k ≤ lb ∧ i = .int .i64 k ∧ J (pws l l' h h' k) wr ∧ Hid (KpB n₀ Ba Bb W wr)) (fun i _ => lb - (intOf i).toNat)
  case atStart => exact ⟨0, Nat.zero_le _, rfl, h0, KpB.refl _ _ _ _⟩
  case round =>
   obtain ⟨k, hk, rfl, hJs, hnx⟩ := hrel
   have hBa' := (World.cell?_of_block (a := ⟨Ba, 0, none⟩) hnx.out.2.1).trans hBa
   have hBb' := (World.cell?_of_block (a := ⟨Bb, 0, none⟩) hnx.out.2.2).trans hBb
   have HHA := Lib.hid (ha.below hnx.out.1)
   have HHB := Lib.hid (hb.below hnx.out.1)
   by_cases hlt : k < lb
   ·obtain ⟨fn, tmps, assign, body, hy, hR⟩ := hY _ (pw l l' h h' k) wr hJs (by rw [pws_length]; exact hlt)
    have HR := Lib.hid hR
    clear hR
    have ea : la ≤ k → l[k]?.getD 0 = 0 := fun hle => by rw [List.getElem?_eq_none (by have := HHA.out.1; omega)]; rfl
    have eb : lb ≤ k → l'[k]?.getD 0 = 0 := fun hle => by rw [List.getElem?_eq_none (by have := HHB.out.1; omega)]; rfl
    have wa := h.get k
    have wb := h'.get k
    simp only [pw, PW.enc] at hy
    have i1 : (0 : Int) ≤ (k : Int) := by omega
    by_cases hka : k < la
    ·obtain ⟨b1, o1, rfl, hb1, hc1⟩ := HHA.out.2 (by omega)
     have hca := hc1 k hka
     generalize l[k]?.getD 0 = x at *
     have ka : (k : Int) < (la : Int) := by omega
     by_cases hkb : k < lb
     ·obtain ⟨b2, o2, rfl, hb2, hc2⟩ := HHB.out.2 (by omega)
      have hcb := hc2 k hkb
      generalize l'[k]?.getD 0 = y at *
      have kb : (k : Int) < (lb : Int) := by omega
      clear hc1 hc2 ea eb
      gi_wp2
      refine HR.out.mono ?_
      rintro e W3 (⟨rfl, hJ3, hk3⟩ | ⟨rfl, hJx3⟩)
      ·have HN := Lib.hid (hnx.out.trans hk3)
       clear hk3
       gi_wp2
       go_roundw
       case rel => exact ⟨k + 1, by omega, by go_num, by rw [pws_succ]; exact hJ3, HN.out⟩
       case measure => simp [intOf]; omega
      ·gi_wp2
       refine bodyPost_ret (results_none rfl _ _ _) rfl ?_
       exact ⟨⟨_, rfl⟩, .inr ⟨_, ⟨k + 1, by omega, (pws_succ _ _ _ _ _).symm⟩, hJx3⟩⟩
     ·exact absurd hlt hkb
    ·rw [ea (by omega), show ((0 : Nat) : Int) = 0 from rfl] at hy
     have ka : ¬ ((k : Int) < (la : Int)) := by omega
     have hkb : k < lb := by omega
     obtain ⟨b2, o2, rfl, hb2, hc2⟩ := HHB.out.2 (by omega)
     have hcb := hc2 k hkb
     generalize l'[k]?.getD 0 = y at *
     have kb : (k : Int) < (lb : Int) := by omega
     clear hc2 ea eb
     gi_wp2
     refine HR.out.mono ?_
     rintro e W3 (⟨rfl, hJ3, hk3⟩ | ⟨rfl, hJx3⟩)
     ·have HN := Lib.hid (hnx.out.trans hk3)
      clear hk3
      gi_wp2
      go_roundw
      case rel => exact ⟨k + 1, by omega, by go_num, by rw [pws_succ]; exact hJ3, HN.out⟩
      case measure => simp [intOf]; omega
     ·gi_wp2
      refine bodyPost_ret (results_none rfl _ _ _) rfl ?_
      exact ⟨⟨_, rfl⟩, .inr ⟨_, ⟨k + 1, by omega, (pws_succ _ _ _ _ _).symm⟩, hJx3⟩⟩
   ·obtain rfl : k = lb := by omega
    gi_wp2
    go_end0
    exact ⟨⟨_, rfl⟩, .inl ⟨_, rfl, hJs⟩⟩
 ·have emax : max la lb = la := by omega
  rw [emax] at hY ⊢
  have EM := Lib.hid emax
  clear emax
  refine callsIn_of_wp Tryz.func226 rfl trivial ?_ rfl
  simp only [Tryz.ntmps226, List.size_toArray, List.length_cons, List.length_nil, Nat.reduceAdd, Nat.reduceSub, Array.replicate_succ, Array.replicate_zero, List.push_toArray, List.append_toArray, List.nil_append, List.cons_append]
  gi_wp2
  gi_loopw [12] (fun i wr => ∃ k : Nat, k ≤ la ∧ i = .int .i64 k ∧ J (pws l l' h h' k) wr ∧ Hid (KpB n₀ Ba Bb W wr)) (fun i _ => la - (intOf i).toNat)
  case atStart => exact ⟨0, Nat.zero_le _, rfl, h0, KpB.refl _ _ _ _⟩
  case round =>
   obtain ⟨k, hk, rfl, hJs, hnx⟩ := hrel
   have hBa' := (World.cell?_of_block (a := ⟨Ba, 0, none⟩) hnx.out.2.1).trans hBa
   have hBb' := (World.cell?_of_block (a := ⟨Bb, 0, none⟩) hnx.out.2.2).trans hBb
   have HHA := Lib.hid (ha.below hnx.out.1)
   have HHB := Lib.hid (hb.below hnx.out.1)
   by_cases hlt : k < la
   ·obtain ⟨fn, tmps, assign, body, hy, hR⟩ := hY _ (pw l l' h h' k) wr hJs (by rw [pws_length]; exact hlt)
    have HR := Lib.hid hR
    clear hR
    have ea : la ≤ k → l[k]?.getD 0 = 0 := fun hle => by rw [List.getElem?_eq_none (by have := HHA.out.1; omega)]; rfl
    have eb : lb ≤ k → l'[k]?.getD 0 = 0 := fun hle => by rw [List.getElem?_eq_none (by have := HHB.out.1; omega)]; rfl
    have wa := h.get k
    have wb := h'.get k
    simp only [pw, PW.enc] at hy
    have i1 : (0 : Int) ≤ (k : Int) := by omega
    by_cases hka : k < la
    ·obtain ⟨b1, o1, rfl, hb1, hc1⟩ := HHA.out.2 (by omega)
     have hca := hc1 k hka
     generalize l[k]?.getD 0 = x at *
     have ka : (k : Int) < (la : Int) := by omega
     by_cases hkb : k < lb
     ·obtain ⟨b2, o2, rfl, hb2, hc2⟩ := HHB.out.2 (by omega)
      have hcb := hc2 k hkb
      generalize l'[k]?.getD 0 = y at *
      have kb : (k : Int) < (lb : Int) := by omega
      clear hc1 hc2 ea eb
      gi_wp2
      refine HR.out.mono ?_
      rintro e W3 (⟨rfl, hJ3, hk3⟩ | ⟨rfl, hJx3⟩)
      ·have HN := Lib.hid (hnx.out.trans hk3)
       clear hk3
       gi_wp2
       go_roundw
       case rel => exact ⟨k + 1, by omega, by go_num, by rw [pws_succ]; exact hJ3, HN.out⟩
       case measure => simp [intOf]; omega
      ·gi_wp2
       refine bodyPost_ret (results_none rfl _ _ _) rfl ?_
       exact ⟨⟨_, rfl⟩, .inr ⟨_, ⟨k + 1, by omega, (pws_succ _ _ _ _ _).symm⟩, hJx3⟩⟩
     ·rw [eb (by omega), show ((0 : Nat) : Int) = 0 from rfl] at hy
      have kb : ¬ ((k : Int) < (lb : Int)) := by omega
      clear hc1 ea eb
      gi_wp2
      refine HR.out.mono ?_
      rintro e W3 (⟨rfl, hJ3, hk3⟩ | ⟨rfl, hJx3⟩)
      ·have HN := Lib.hid (hnx.out.trans hk3)
       clear hk3
       gi_wp2
       go_roundw
       case rel => exact ⟨k + 1, by omega, by go_num, by rw [pws_succ]; exact hJ3, HN.out⟩
       case measure => simp [intOf]; omega
      ·gi_wp2
       refine bodyPost_ret (results_none rfl _ _ _) rfl ?_
       exact ⟨⟨_, rfl⟩, .inr ⟨_, ⟨k + 1, by omega, (pws_succ _ _ _ _ _).symm⟩, hJx3⟩⟩
    ·exact absurd hlt hka
   ·obtain rfl : k = la := by omega
    gi_wp2
    go_end0
    exact ⟨⟨_, rfl⟩, .inl ⟨_, rfl, hJs⟩⟩

end Go.Proofs.YtjajigkacccdgaaGreat

namespace Go.Proofs.YtjajigkacccdgaaGreat
set_option linter.unusedVariables false
set_option linter.unusedSimpArgs false
open Go

theorem rowsIn_of {r n : Nat} {P : Program} {row : String} {args : Array Value} {w : World} {R : Value → World → Prop} (h : Rows P row args w R) : RowsIn (Fence.wide.inRound r) n P row args w R :=
 fun c cs _ => let ⟨v, w', q, s⟩ := h c cs; ⟨v, w', q, stepsIn_wide.2 s⟩

theorem wpOpIn_of_wpOp {r n : Nat} {P : Program} {ops : Array Oper} {Q : Exit → Act → World → Prop} {i : Nat} {K : Act → World → Prop} {a : Act} {w : World} (hnd : ∀ (j : Nat) (o : Oper), ops[j]? = some o → ∀ c, o.op ≠ .defer c) (hQ : ¬ LetsOut Q) (h : wpOp P ops Q i K a w) :
  wpOpIn (Fence.wide.inRound r) n P ops Q i K a w := by
 unfold wpOp at h
 unfold wpOpIn
 cases ho : ops[i]? with
 | none => rw [ho] at h; exact h
 | some o =>
  rw [ho] at h
  simp only at h ⊢
  split
  ·rename_i hw
   rw [if_pos hw] at h
   rcases h with h | ⟨_, hl⟩
   ·unfold Oper.wp at h
    unfold Oper.wpIn
    refine ⟨fun _ _ => trivial, ?_⟩
    rw [Fence.inRound_round, Oper.semAt_some _ _ _ (hnd i o ho)]
    generalize (execOp a.eval o).run P w = res at *
    cases res with
    | ok x w' =>
     cases x <;> simp only [Oper.upon, Oper.uponIn] at h ⊢ <;> first
      | exact h
      | exact ⟨fun hh => by simp [Fence.inRound, Fence.wide] at hh, CallsIn.inRound r (callsIn_wide.2 h)⟩
      | exact ⟨fun hh => by simp [Fence.inRound, Fence.wide] at hh, rowsIn_of h⟩
      | exact h.elim
    | halt x w' => cases x <;> simp only [Oper.upon, Oper.uponIn] at h ⊢ <;> exact h
   ·exact absurd hl hQ
  ·rename_i hw
   rw [if_neg hw] at h
   exact ⟨fun _ _ => trivial, h⟩

theorem wpAnyIn_of_wpAny {r n : Nat} {P : Program} {md : Region.Mode} {ops : Array Oper} {Q : Exit → Act → World → Prop} (hnd : ∀ (j : Nat) (o : Oper), ops[j]? = some o → ∀ c, o.op ≠ .defer c) (hQ : ¬ LetsOut Q) : ∀ (fuel : Nat) (listed : Array Bool) (a : Act) (w : World),
  wpAny P md ops Q fuel listed a w → wpAnyIn (Fence.wide.inRound r) n P md ops Q fuel listed a w
 | 0, _, _, _, h => h
 | fuel + 1, _, _, _, h => ⟨h.1, fun i hi => wpOpIn_mono (fun a' w' h' => wpAnyIn_of_wpAny hnd hQ fuel _ a' w' h') (wpOpIn_of_wpOp hnd hQ (h.2 i hi))⟩

/-- Q, and only where the region ends. -/
def OnlyN (Q : Exit → Act → World → Prop) : Exit → Act → World → Prop
 | .normal, a, w => Q .normal a w
 | _, _, _ => False
theorem OnlyN.imp {Q : Exit → Act → World → Prop} : ∀ (e : Exit) (a : Act) (w : World), OnlyN Q e a w → Q e a w := fun e a w h => by
 cases e <;> first | exact h | exact (h : False).elim
theorem OnlyN.noOut {Q : Exit → Act → World → Prop} : ¬ LetsOut (OnlyN Q) := fun ⟨_, _, h⟩ => h
def noDefer (ops : Array Oper) : Bool := ops.all fun o => match o.op with | .defer _ => false | _ => true
theorem noDefer_spec {ops : Array Oper} (h : noDefer ops = true) : ∀ (j : Nat) (o : Oper), ops[j]? = some o → ∀ c, o.op ≠ .defer c := by
 intro j o ho c hc
 obtain ⟨hj, rfl⟩ := Array.getElem?_eq_some_iff.1 ho
 have := (Array.all_eq_true.1 h) j hj
 rw [hc] at this
 simp at this
/-- The beginning of the walk. -/
theorem wpIn_round_held {r n : Nat} {P : Program} {ops : Array Oper} {Q : Exit → Act → World → Prop} {S : World → Prop} {id : Nat} {a : Act} {w : World} (hm : P.follows .mixedOrders = true) (hnd : noDefer ops = true) (hS : S w.drew)
  (h : S w.drew → wpAnyH P .any ops (OnlyN Q) S ops.size (Array.replicate ops.size false) a w.drew) : (Code.region id ops true).wpIn (Fence.wide.inRound r) n P Q a w :=
 Code.wpIn_mono OnlyN.imp (wpIn_region_any hm (wpAnyIn_of_wpAny (noDefer_spec hnd) OnlyN.noOut _ _ _ _ (wpAny_of_held _ _ _ _ (h hS))))

theorem rowsIn_of' {n : Nat} {P : Program} {row : String} {args : Array Value} {w : World} {R : Value → World → Prop} (h : Rows P row args w R) : RowsIn Fence.wide n P row args w R :=
 fun c cs _ => let ⟨v, w', q, s⟩ := h c cs; ⟨v, w', q, stepsIn_wide.2 s⟩
theorem wpOpIn_of_wpOp' {n : Nat} {P : Program} {ops : Array Oper} {Q : Exit → Act → World → Prop} {i : Nat} {K : Act → World → Prop} {a : Act} {w : World} (hQ : ¬ LetsOut Q) (h : wpOp P ops Q i K a w) :
  wpOpIn Fence.wide n P ops Q i K a w := by
 unfold wpOp at h
 unfold wpOpIn
 cases ho : ops[i]? with
 | none => rw [ho] at h; exact h
 | some o =>
  rw [ho] at h
  simp only at h ⊢
  split
  ·rename_i hw
   rw [if_pos hw] at h
   rcases h with h | ⟨_, hl⟩
   ·unfold Oper.wp at h
    unfold Oper.wpIn
    refine ⟨fun _ _ => trivial, ?_⟩
    rw [show Fence.wide.round = none from rfl, Oper.semAt_none]
    generalize (execOp a.eval o).run P w = res at *
    cases res with
    | ok x w' =>
     cases x <;> simp only [Oper.upon, Oper.uponIn] at h ⊢ <;> first
      | exact h
      | exact ⟨fun hh => by simp [Fence.wide] at hh, callsIn_wide.2 h⟩
      | exact ⟨fun hh => by simp [Fence.wide] at hh, rowsIn_of' h⟩
      | exact h.elim
    | halt x w' => cases x <;> simp only [Oper.upon, Oper.uponIn] at h ⊢ <;> exact h
   ·exact absurd hl hQ
  ·rename_i hw
   rw [if_neg hw] at h
   exact ⟨fun _ _ => trivial, h⟩
theorem wpAnyIn_of_wpAny' {n : Nat} {P : Program} {md : Region.Mode} {ops : Array Oper} {Q : Exit → Act → World → Prop} (hQ : ¬ LetsOut Q) : ∀ (fuel : Nat) (listed : Array Bool) (a : Act) (w : World),
  wpAny P md ops Q fuel listed a w → wpAnyIn Fence.wide n P md ops Q fuel listed a w
 | 0, _, _, _, h => h
 | fuel + 1, _, _, _, h => ⟨h.1, fun i hi => wpOpIn_mono (fun a' w' h' => wpAnyIn_of_wpAny' hQ fuel _ a' w' h') (wpOpIn_of_wpOp' hQ (h.2 i hi))⟩
/-- The same outside of a round. -/
theorem wpIn_wide_held {n : Nat} {P : Program} {ops : Array Oper} {Q : Exit → Act → World → Prop} {S : World → Prop} {id : Nat} {a : Act} {w : World} (hm : P.follows .mixedOrders = true) (hS : S w.drew)
  (h : S w.drew → wpAnyH P .any ops (OnlyN Q) S ops.size (Array.replicate ops.size false) a w.drew) : (Code.region id ops true).wpIn Fence.wide n P Q a w :=
 Code.wpIn_mono OnlyN.imp (wpIn_region_any hm (wpAnyIn_of_wpAny' OnlyN.noOut _ _ _ _ (wpAny_of_held _ _ _ _ (h hS))))

end Go.Proofs.YtjajigkacccdgaaGreat
