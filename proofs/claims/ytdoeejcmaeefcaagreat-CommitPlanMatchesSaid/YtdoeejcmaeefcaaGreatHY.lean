/-
Package commit: the cells of the search and of its rows. Package unit: Next at every state between the longest holds. Package commit: newSearch. Package commit: the search with its supplies and transitions. No statement of the seat is proved here; no conditions beyond those of each theorem.
-/
import Derived.Test.YtdoeejcmaeefcaaGreatHW
import Derived.Test.YtdoeejcmaeefcaaGreatHX
import Derived.Test.YtdoeejcmaeefcaaGreatHR
namespace Go.Proofs.YtdoeejcmaeefcaaGreat
set_option linter.unusedVariables false
set_option linter.unusedSimpArgs false
open Go.RowKit
open Wd
open Cm

/-- The cells of a row of supplies. -/
def rowA (N : Nat) (f : Nat → Option Int) : Array Value := Array.ofFn (n := 2 * N) fun i => if i.1 % 2 = 0 then .bool (f (i.1 / 2)).isSome else .int .i64 ((f (i.1 / 2)).getD 0)
theorem rowA_size (N : Nat) (f : Nat → Option Int) : (rowA N f).size = 2 * N := by simp [rowA]
theorem rowA_even {N : Nat} {f : Nat → Option Int} {c : Nat} (h : c < N) : (rowA N f)[c * 2]? = some (.bool (f c).isSome) := by
  unfold rowA
  rw [Array.getElem?_ofFn, dif_pos (by omega)]
  simp
theorem rowA_odd {N : Nat} {f : Nat → Option Int} {c : Nat} (h : c < N) : (rowA N f)[c * 2 + 1]? = some (.int .i64 ((f c).getD 0)) := by
  unfold rowA
  rw [Array.getElem?_ofFn, dif_pos (by omega)]
  have h1 : (c * 2 + 1) % 2 = 1 := by omega
  have h2 : (c * 2 + 1) / 2 = c := by omega
  simp [h1, h2]
theorem rowA_ext {N : Nat} {f : Nat → Option Int} {a : Array Value} (hs : a.size = 2 * N) (h : ∀ c, c < N → a[c * 2]? = some (.bool (f c).isSome) ∧ a[c * 2 + 1]? = some (.int .i64 ((f c).getD 0))) : a = rowA N f := by
  apply Array.ext (by rw [hs, rowA_size])
  intro i h1 h2
  have key : a[i]? = (rowA N f)[i]? := by
    rcases Nat.mod_two_eq_zero_or_one i with e | e
    · have hi : i = (i / 2) * 2 := by omega
      rw [hi, rowA_even (by omega)]
      exact (h (i / 2) (by omega)).1
    · have hi : i = (i / 2) * 2 + 1 := by omega
      rw [hi, rowA_odd (by omega)]
      exact (h (i / 2) (by omega)).2
  rw [Array.getElem?_eq_getElem h1, Array.getElem?_eq_getElem h2] at key
  exact Option.some.inj key
theorem rowA_congr {N : Nat} {f g : Nat → Option Int} (h : ∀ c, c < N → f c = g c) : rowA N f = rowA N g := rowA_ext (rowA_size _ _) fun c hc => by rw [rowA_even hc, rowA_odd hc, h c hc]; exact ⟨rfl, rfl⟩
/-- f with another value at c. -/
def upd (f : Nat → Option Int) (c : Nat) (o : Option Int) (k : Nat) : Option Int := if k = c then o else f k
theorem rowA_set {N : Nat} {f : Nat → Option Int} {c : Nat} {o : Option Int} (h : c < N) : ((rowA N f).setIfInBounds (c * 2) (.bool o.isSome)).setIfInBounds (c * 2 + 1) (.int .i64 (o.getD 0)) = rowA N (upd f c o) := by
  refine rowA_ext (by simp [rowA_size]) fun k hk => ?_
  simp only [Array.getElem?_setIfInBounds, Array.size_setIfInBounds, rowA_size, rowA_even hk, rowA_odd hk, upd]
  by_cases e : k = c
  · subst e
    simp
    omega
  · constructor
    · rw [if_neg (by omega), if_neg (by omega), if_neg e]
    · rw [if_neg (by omega), if_neg (by omega), if_neg e]
theorem made_rows (N : Nat) : madeCells #[.bool false, .int .i64 0] (N * 2) = rowA N fun _ => none := by
  refine rowA_ext (by simp [size_madeCells]; omega) fun c hc => ?_
  have h1 : (c * 2) % 2 = 0 := by omega
  have h2 : (c * 2 + 1) % 2 = 1 := by omega
  constructor
  · rw [Array.getElem?_eq_getElem (by simp [size_madeCells]; omega)]
    simp [madeCells, h1]
  · rw [Array.getElem?_eq_getElem (by simp [size_madeCells]; omega)]
    simp [madeCells, h2]
theorem info_supply : (Tryz.prog.info? 101).map (fun i => (i.zero, i.size, i.bytes)) = some (some (.agg #[.bool false, .int .i64 0]), 2, 16) := by kernel_rfl
theorem run_make_rows (k : Nat) (hk : k ≤ 1000000) (w : World) :
    (Instr.makeSlice 99 (.int .i64 (k : Int)) (.int .i64 (k : Int))).run Tryz.prog w = .ok (.slice (some ⟨w.heap.size, 0, none⟩) k k) (w.alloc (.cells (rowA k fun _ => none) 101)) := by
  obtain ⟨i0, hi, hz0, hz1, hz2⟩ := info_parts info_supply
  have h := run_make (P := Tryz.prog) w 99 101 i0 _ Tryz.underlying99 hi hz0 .i64 .i64 k k (by omega) (Int.le_refl _) (by rw [hz2]; omega) (by omega)
  rw [h, hz1]
  simp only [Int.toNat_natCast, Value.cells]
  rw [made_rows]

/-- The cells of a search: its fields; of the transitions those that are done. -/
structure NxC (us : List Un) (A : Option Addr) (n c m : Nat) (As : Option Addr) (k ca mb : Nat) (D : Nat → Nat → Nat → Prop) (cs : Array Value) : Prop where
  size : cs.size = 264
  units : cs[0]? = some (.slice A n c)
  hours : cs[1]? = some (.int .i64 (m : Int))
  sup : cs[2]? = some (.slice As k ca)
  next : ∀ i j b, i < 5 → j < 13 → b < 2 → D i j b → cs[3 + i * 52 + j * 4 + b * 2]? = some (.bool (unext (us[i]?.getD U0) ((j : Int) - 6) (b == 1)).isSome) ∧ cs[3 + i * 52 + j * 4 + b * 2 + 1]? = some (.int .i64 ((unext (us[i]?.getD U0) ((j : Int) - 6) (b == 1)).getD 0))
  known : cs[263]? = some (.map (some mb))
theorem NxC.sup2 {us : List Un} {A : Option Addr} {n c m : Nat} {As : Option Addr} {k ca mb : Nat} {D : Nat → Nat → Nat → Prop} {cs : Array Value} (h : NxC us A n c m As k ca mb D cs) (As' : Option Addr) (k' ca' : Nat) : NxC us A n c m As' k' ca' mb D (cs.setIfInBounds 2 (.slice As' k' ca')) := by
  refine ⟨by simp [h.size], ?_, ?_, ?_, fun i j b h1 h2 h3 h4 => ?_, ?_⟩
  · rw [Array.getElem?_setIfInBounds_ne (by omega)]; exact h.units
  · rw [Array.getElem?_setIfInBounds_ne (by omega)]; exact h.hours
  · rw [Array.getElem?_setIfInBounds_self]; simp [h.size]
  · rw [Array.getElem?_setIfInBounds_ne (by omega), Array.getElem?_setIfInBounds_ne (by omega)]
    exact h.next i j b h1 h2 h3 h4
  · rw [Array.getElem?_setIfInBounds_ne (by omega)]; exact h.known
theorem NxC.put {us : List Un} {A : Option Addr} {n c m : Nat} {As : Option Addr} {k ca mb : Nat} {D D' : Nat → Nat → Nat → Prop} {cs : Array Value} (h : NxC us A n c m As k ca mb D cs) {i j b : Nat} (hi : i < 5) (hj : j < 13) (hb : b < 2) {t : Value} {x : Value}
    (ht : t = .bool (unext (us[i]?.getD U0) ((j : Int) - 6) (b == 1)).isSome) (hx : x = .int .i64 ((unext (us[i]?.getD U0) ((j : Int) - 6) (b == 1)).getD 0)) (hD : ∀ i' j' b', D' i' j' b' → D i' j' b' ∨ (i' = i ∧ j' = j ∧ b' = b)) :
    NxC us A n c m As k ca mb D' ((cs.setIfInBounds (3 + i * 52 + j * 4 + b * 2) t).setIfInBounds (3 + i * 52 + j * 4 + b * 2 + 1) x) := by
  have hs := h.size
  refine ⟨by simp [hs], ?_, ?_, ?_, fun i' j' b' h1 h2 h3 h4 => ?_, ?_⟩
  · rw [Array.getElem?_setIfInBounds_ne (by omega), Array.getElem?_setIfInBounds_ne (by omega)]; exact h.units
  · rw [Array.getElem?_setIfInBounds_ne (by omega), Array.getElem?_setIfInBounds_ne (by omega)]; exact h.hours
  · rw [Array.getElem?_setIfInBounds_ne (by omega), Array.getElem?_setIfInBounds_ne (by omega)]; exact h.sup
  · by_cases e : i' = i ∧ j' = j ∧ b' = b
    · obtain ⟨rfl, rfl, rfl⟩ := e
      constructor
      · rw [Array.getElem?_setIfInBounds_ne (by omega), Array.getElem?_setIfInBounds_self, if_pos (by omega), ht]
      · rw [Array.getElem?_setIfInBounds_self, if_pos (by simp; omega), hx]
    · rcases hD i' j' b' h4 with hd | hd
      · have hn := h.next i' j' b' h1 h2 h3 hd
        constructor
        · rw [Array.getElem?_setIfInBounds_ne (by omega), Array.getElem?_setIfInBounds_ne (by omega)]; exact hn.1
        · rw [Array.getElem?_setIfInBounds_ne (by omega), Array.getElem?_setIfInBounds_ne (by omega)]; exact hn.2
      · exact absurd hd e
  · rw [Array.getElem?_setIfInBounds_ne (by omega), Array.getElem?_setIfInBounds_ne (by omega)]; exact h.known
theorem NxC.weak {us : List Un} {A : Option Addr} {n c m : Nat} {As : Option Addr} {k ca mb : Nat} {D D' : Nat → Nat → Nat → Prop} {cs : Array Value} (h : NxC us A n c m As k ca mb D cs) (hD : ∀ i' j' b', D' i' j' b' → D i' j' b') : NxC us A n c m As k ca mb D' cs :=
  ⟨h.size, h.units, h.hours, h.sup, fun i j b h1 h2 h3 h4 => h.next i j b h1 h2 h3 (hD i j b h4), h.known⟩
/-- All transitions of the units' states. -/
theorem NxC.all {us : List Un} {A : Option Addr} {n c m : Nat} {As : Option Addr} {k ca mb : Nat} {D : Nat → Nat → Nat → Prop} {cs : Array Value} (h : NxC us A n c m As k ca mb D cs) (hkm : k = m) (hl : us.length = n) (hn : n ≤ 5) (hu : ∀ u ∈ us, uchk u = 0) (hD : ∀ i j b : Nat, i < n → (-(us[i]?.getD U0).dn ≤ (j : Int) - 6) → ((j : Int) - 6 ≤ (us[i]?.getD U0).up) → b < 2 → D i j b) : SrC us A n c m As ca mb cs := by
  subst hkm
  refine ⟨h.units, h.hours, h.sup, fun i hi s b hs => ?_, h.known⟩
  have hr := uchk_rest (hu _ (gmem (d := U0) (show i < us.length by omega)))
  have hs' := hs
  unfold StOk at hs'
  refine ⟨(s + 6).toNat, by omega, ?_⟩
  have e : (((s + 6).toNat : Nat) : Int) - 6 = s := by omega
  cases b
  · have := h.next i (s + 6).toNat 0 (by omega) (by omega) (by omega) (hD i (s + 6).toNat 0 hi (by omega) (by omega) (by omega))
    rw [e] at this
    simpa using this
  · have := h.next i (s + 6).toNat 1 (by omega) (by omega) (by omega) (hD i (s + 6).toNat 1 hi (by omega) (by omega) (by omega))
    rw [e] at this
    simpa using this
/-- The cells of a new search. -/
def S0 (A : Option Addr) (n c m mb : Nat) : Array Value := #[.slice A n c, .int .i64 (m : Int), .slice none 0 0] ++ (Array.replicate 130 (#[Value.bool false, Value.int .i64 0])).flatten ++ #[.map (some mb)]
theorem S0_ok (us : List Un) (A : Option Addr) (n c m mb : Nat) : NxC us A n c m none 0 0 mb (fun _ _ _ => False) (S0 A n c m mb) := by
  exact ⟨by kernel_rfl, by kernel_rfl, by kernel_rfl, by kernel_rfl, fun _ _ _ _ _ _ h => h.elim, by kernel_rfl⟩
theorem run_build_search (A : Option Addr) (n c m mb : Nat) (w : World) : (Instr.build 98 #[(0, .slice A n c), (1, .int .i64 (m : Int)), (4, .map (some mb))]).run Tryz.prog w = .ok (.agg (S0 A n c m mb)) w := by kernel_rfl

end Go.Proofs.YtdoeejcmaeefcaaGreat

namespace Go.Proofs.YtdoeejcmaeefcaaGreat
set_option linter.unusedVariables false
set_option linter.unusedSimpArgs false
open Go.RowKit
open Wd
open Cm

set_option maxRecDepth 100000 in
set_option maxHeartbeats 2000000 in
theorem uNext_zero (bus mn up dn start idle spin on : Int) (A : Option Addr) (n c : Nat) (l : List (Int × Int)) (b : Bool) (w : World) (h : StAt w A n l) (hm : n ≤ 1000000000000) (hv : uchk (⟨bus, mn, l, up, dn, start, idle, spin, on⟩ : Un) = 0) :
    Calls Tryz.prog 21 #[.agg #[.int .i64 bus, .int .i64 mn, .slice A n c, .int .i64 up, .int .i64 dn, .int .i64 start, .int .i64 idle, .int .i64 spin, .int .i64 on], .int .i64 0, .bool b] w fun e w' => e = .returned (.tuple #[.int .i64 0, .bool false]) ∧ Below w.heap.size w w' := by
  have T := Lib.hid (fun W (hW : Below w.heap.size w W) => uvalid_raw bus mn up dn start idle spin on A n c l W (h.below hW) hm)
  rw [decide_eq_true hv] at T
  clear h hv
  go_enter Tryz.func21, Tryz.ntmps21
  go_wp2_with fail
  have hBX := Blk.new w 39 #[.int .i64 bus, .int .i64 mn, .slice A n c, .int .i64 up, .int .i64 dn, .int .i64 start, .int .i64 idle, .int .i64 spin, .int .i64 on]
  obtain ⟨u0, u1, u2, u3, u4, u5, u6, u7, u8⟩ := hBX.nine
  have hb0 : Below w.heap.size w (w.alloc (.cells #[.int .i64 bus, .int .i64 mn, .slice A n c, .int .i64 up, .int .i64 dn, .int .i64 start, .int .i64 idle, .int .i64 spin, .int .i64 on] 39)) := (Below.refl _ _).alloc (Nat.le_refl _) _
  generalize w.alloc (.cells #[.int .i64 bus, .int .i64 mn, .slice A n c, .int .i64 up, .int .i64 dn, .int .i64 start, .int .i64 idle, .int .i64 spin, .int .i64 on] 39) = W at *
  refine (T.out W hb0).mono ?_
  rintro e w1 ⟨rfl, hb1⟩
  have HB := Lib.hid (hb0.trans (hb1.mono hb0.size))
  clear hb1 hb0 hBX u0 u1 u2 u3 u4 u5 u6 u7 u8 T
  go_wp2
  go_ret2
  exact ⟨rfl, HB.out⟩
theorem unext_zero {u : Un} (h : uchk u = 0) (b : Bool) : unext u 0 b = none := by
  have := uchk_rest h
  unfold unext
  rw [if_neg (by omega), if_neg (by omega), if_neg (by omega), if_neg (by omega)]
theorem uNext_any (bus mn up dn start idle spin on : Int) (A : Option Addr) (n c : Nat) (l : List (Int × Int)) (s : Int) (b : Bool) (w : World) (h : StAt w A n l) (hm : n ≤ 1000000000000) (hv : uchk (⟨bus, mn, l, up, dn, start, idle, spin, on⟩ : Un) = 0) (h1 : -dn ≤ s) (h2 : s ≤ up) :
    Calls Tryz.prog 21 #[.agg #[.int .i64 bus, .int .i64 mn, .slice A n c, .int .i64 up, .int .i64 dn, .int .i64 start, .int .i64 idle, .int .i64 spin, .int .i64 on], .int .i64 s, .bool b] w fun e w' => e = .returned (.tuple #[.int .i64 ((unext (⟨bus, mn, l, up, dn, start, idle, spin, on⟩ : Un) s b).getD 0), .bool (unext (⟨bus, mn, l, up, dn, start, idle, spin, on⟩ : Un) s b).isSome]) ∧ Below w.heap.size w w' := by
  by_cases hs : s = 0
  · subst hs
    rw [unext_zero hv]
    exact uNext_zero bus mn up dn start idle spin on A n c l b w h hm hv
  · exact uNext_raw bus mn up dn start idle spin on A n c l s b w h hm hv ⟨hs, h1, h2⟩

end Go.Proofs.YtdoeejcmaeefcaaGreat

namespace Go.Proofs.YtdoeejcmaeefcaaGreat
set_option linter.unusedVariables false
set_option linter.unusedSimpArgs false
open Go.RowKit
open Wd
open Cm

/-- The search with the supplies of the first k hours. -/
def L1 (us : List Un) (hs : List Hr) (A : Option Addr) (n c m : Nat) (w : World) (k : Nat) (wr : World) : Prop :=
  ∃ (As : Option Addr) (ca : Nat) (gl : List Nat) (cs : Array Value), Kp w wr ∧ wr.heap[w.heap.size]? = some (.map #[] 0) ∧ Blk wr (w.heap.size + 1) 98 cs ∧ NxC us A n c m As k ca w.heap.size (fun _ _ _ => False) cs ∧
    Own (w.heap.size + 1 + 1) 99 1 wr As k ca (gl.map fun g => Value.slice (some ⟨g, 0, none⟩) (2 ^ n) (2 ^ n)) ∧ ∀ j, j < k → Blk wr (gl[j]?.getD 0) 101 (rowA (2 ^ n) fun q => supH us (hs[j]?.getD Hr0) (bitsN n q))
theorem L1.keep {us : List Un} {hs : List Hr} {A : Option Addr} {n c m : Nat} {w : World} {k : Nat} {wr w' : World} (h : L1 us hs A n c m w k wr) (hb : Kp wr w') : L1 us hs A n c m w k w' := by
  obtain ⟨As, ca, gl, cs, h1, h2, h3, h4, h5, h6⟩ := h
  exact ⟨As, ca, gl, cs, Kp.trans h1 hb, (hb.block _ (Array.getElem?_eq_some_iff.1 h2).1).trans h2, hb.blk h3, h4, h5.keep hb, fun j hj => hb.blk (h6 j hj)⟩
/-- One row more. -/
theorem L1.more {us : List Un} {hs : List Hr} {A : Option Addr} {n c m : Nat} {w : World} {k : Nat} {wr w2 : World} {As B : Option Addr} {ca cb gr : Nat} {gl : List Nat} {cs : Array Value} (h1 : Kp w wr) (h2 : wr.heap[w.heap.size]? = some (.map #[] 0)) (h3 : Blk wr (w.heap.size + 1) 98 cs) (h4 : NxC us A n c m As k ca w.heap.size (fun _ _ _ => False) cs)
    (h5 : Own (w.heap.size + 1 + 1) 99 1 wr As k ca (gl.map fun g => Value.slice (some ⟨g, 0, none⟩) (2 ^ n) (2 ^ n))) (h6 : ∀ j, j < k → Blk wr (gl[j]?.getD 0) 101 (rowA (2 ^ n) fun q => supH us (hs[j]?.getD Hr0) (bitsN n q))) (hr : Blk wr gr 101 (rowA (2 ^ n) fun q => supH us (hs[k]?.getD Hr0) (bitsN n q)))
    (ho : Own (w.heap.size + 1 + 1) 99 1 w2 B (k + 1) cb ((gl.map fun g => Value.slice (some ⟨g, 0, none⟩) (2 ^ n) (2 ^ n)) ++ [Value.slice (some ⟨gr, 0, none⟩) (2 ^ n) (2 ^ n)])) (hb : Below (w.heap.size + 1 + 1) wr w2) (hk : Kept wr w2 As) :
    L1 us hs A n c m w (k + 1) (w2.setCell ⟨w.heap.size + 1, 2, none⟩ (.slice B (k + 1) cb)) := by
  have hl : gl.length = k := by have := h5.1; simpa using this
  have hg : w.heap.size < w2.heap.size := Nat.lt_of_lt_of_le (by have := h3.lt; omega) hb.size
  have h3' : Blk w2 (w.heap.size + 1) 98 cs := (hb.block _ (by omega)).trans h3
  have hside : ∀ g cs', Blk wr g 101 cs' → Blk (w2.setCell ⟨w.heap.size + 1, 2, none⟩ (.slice B (k + 1) cb)) g 101 cs' := fun g cs' hg' => by
    have h7 : Blk w2 g 101 cs' := by
      refine hk.blk hg' fun hA => ?_
      rcases h5.2 with ⟨h8, _⟩ | ⟨g', cap', cur', h8, _, h9, _⟩
      · simp at h8
        rw [h8.1] at hA
        simp at hA
      · simp at h8
        rw [h8.1] at hA
        simp at hA
        subst hA
        unfold Blk at hg'
        rw [h9] at hg'
        simp at hg'
    refine Blk.far h7 (fun e => ?_) _
    simp only at e
    rw [e] at h7
    unfold Blk at h3' h7
    rw [h3'] at h7
    simp at h7
  refine ⟨B, cb, gl ++ [gr], _, ?_, ?_, h3'.set 2 _, h4.sup2 B (k + 1) cb, ?_, fun j hj => ?_⟩
  · exact Kp.set (Below.trans h1 (hb.mono (show w.heap.size ≤ w.heap.size + 1 + 1 by omega))) (show w.heap.size ≤ w.heap.size + 1 by omega) _
  · exact (Below.heap_setCell _ ⟨w.heap.size + 1, 2, none⟩ _ _ (by simp)).trans ((hb.block _ (by omega)).trans h2)
  · rw [List.map_append]
    exact ho.aside (p := ⟨w.heap.size + 1, 2, none⟩) (by simp) _
  · by_cases hjk : j = k
    · subst hjk
      rw [List.getElem?_append_right (by omega), hl, Nat.sub_self]
      exact hside _ _ hr
    · rw [List.getElem?_append_left (by omega)]
      exact hside _ _ (h6 j (by omega))

end Go.Proofs.YtdoeejcmaeefcaaGreat

namespace Go.Proofs.YtdoeejcmaeefcaaGreat
set_option linter.unusedVariables false
set_option linter.unusedSimpArgs false
open Go.RowKit
open Wd
open Cm

theorem info_row : (Tryz.prog.info? 99).map (fun i => (i.zero, i.size, i.bytes)) = some (some (.slice none 0 0), 1, 24) := by kernel_rfl
theorem one_slice (x : Option Addr) (n c : Nat) : ∀ u ∈ (#[.slice x n c] : Array Value).toList, u.oneCell' = true := by
  intro u hu
  simp at hu
  rw [hu]
  rfl
/-- The supplies lie in other blocks than gs. -/
def SupX (w : World) (A : Option Addr) (m N : Nat) (R : List Row) (gs : Nat) : Prop :=
  R.length = m ∧ (m ≠ 0 → ∃ b o, A = some ⟨b, o, none⟩ ∧ b < w.heap.size ∧ b ≠ gs ∧ ∀ j, j < m → ∃ g cc, w.cell? ⟨b, o + j, none⟩ = some (.slice (some ⟨g, 0, none⟩) N cc) ∧ g < w.heap.size ∧ g ≠ gs ∧ ∀ c, c < N → w.cell? ⟨g, c * 2, none⟩ = some (.bool ((R[j]?.getD [])[c]?.getD none).isSome) ∧ w.cell? ⟨g, c * 2 + 1, none⟩ = some (.int .i64 (((R[j]?.getD [])[c]?.getD none).getD 0)))
theorem SupX.at {w : World} {A : Option Addr} {m N : Nat} {R : List Row} {gs : Nat} (h : SupX w A m N R gs) : SupAt w A m N R := by
  refine ⟨h.1, fun hm => ?_⟩
  obtain ⟨b, o, e, hlt, _, hc⟩ := h.2 hm
  exact ⟨b, o, e, hlt, fun j hj => by obtain ⟨g, cc, h1, h2, _, h4⟩ := hc j hj; exact ⟨g, cc, h1, h2, h4⟩⟩
theorem SupX.below {w w' : World} {A : Option Addr} {m N : Nat} {R : List Row} {gs : Nat} (h : SupX w A m N R gs) (hb : Below w.heap.size w w') : SupX w' A m N R gs := by
  refine ⟨h.1, fun hn => ?_⟩
  obtain ⟨b, o, rfl, hlt, hne, hc⟩ := h.2 hn
  refine ⟨b, o, rfl, Nat.lt_of_lt_of_le hlt hb.size, hne, fun j hj => ?_⟩
  obtain ⟨g, cc, h1, h2, h4, h3⟩ := hc j hj
  exact ⟨g, cc, (hb.cell (p := ⟨b, _, none⟩) hlt).trans h1, Nat.lt_of_lt_of_le h2 hb.size, h4, fun c hcc => ⟨(hb.cell (p := ⟨g, _, none⟩) h2).trans (h3 c hcc).1, (hb.cell (p := ⟨g, _, none⟩) h2).trans (h3 c hcc).2⟩⟩
theorem far_cell {w : World} {p q : Addr} {v : Value} (h : q.block ≠ p.block) : (w.setCell p v).cell? q = w.cell? q := World.cell?_of_block (Below.heap_setCell _ p v q.block h)
theorem SupX.set {w : World} {A : Option Addr} {m N : Nat} {R : List Row} {p : Addr} {v : Value} (h : SupX w A m N R p.block) : SupX (w.setCell p v) A m N R p.block := by
  refine ⟨h.1, fun hm => ?_⟩
  obtain ⟨b, o, rfl, hlt, hne, hc⟩ := h.2 hm
  refine ⟨b, o, rfl, by rw [World.size_setCell]; exact hlt, hne, fun j hj => ?_⟩
  obtain ⟨g, cc, h1, h2, h4, h3⟩ := hc j hj
  exact ⟨g, cc, (far_cell hne).trans h1, by rw [World.size_setCell]; exact h2, h4, fun c hcc => ⟨(far_cell h4).trans (h3 c hcc).1, (far_cell h4).trans (h3 c hcc).2⟩⟩
/-- The search with its supplies and the transitions that are done. -/
def L3 (us : List Un) (hs : List Hr) (A : Option Addr) (n c m : Nat) (w : World) (As : Option Addr) (ca : Nat) (D : Nat → Nat → Nat → Prop) (wr : World) : Prop :=
  Kp w wr ∧ wr.heap[w.heap.size]? = some (.map #[] 0) ∧ SupX wr As m (2 ^ n) (rowsOf us hs) (w.heap.size + 1) ∧ ∃ cs, Blk wr (w.heap.size + 1) 98 cs ∧ NxC us A n c m As m ca w.heap.size D cs
theorem L1.sup {us : List Un} {hs : List Hr} {A : Option Addr} {n c m : Nat} {w wr : World} (h : L1 us hs A n c m w m wr) (hml : hs.length = m) (hnl : us.length = n) : ∃ As ca, L3 us hs A n c m w As ca (fun _ _ _ => False) wr := by
  obtain ⟨As, ca, gl, cs, h1, h2, h3, h4, h5, h6⟩ := h
  refine ⟨As, ca, h1, h2, ⟨by simp [rowsOf, hml], fun hm => ?_⟩, cs, h3, h4⟩
  have hl : gl.length = m := by have := h5.1; simpa using this
  obtain ⟨g, cap, hv, hb, hlt⟩ := World.ownsRow.form h5 (by omega)
  simp at hv
  obtain ⟨rfl, rfl⟩ := hv
  refine ⟨g, 0, rfl, hlt, by omega, fun j hj => ⟨gl[j]?.getD 0, 2 ^ n, ?_, (h6 j hj).lt, fun e => ?_, fun q hq => ?_⟩⟩
  · rw [Nat.zero_add, World.ownsRow.cellAt h5 j (by simp; omega), List.getElem?_map, List.getElem?_eq_getElem (show j < gl.length by omega)]
    rfl
  · have h7 := h6 j hj
    rw [e] at h7
    unfold Blk at h7 h3
    rw [h3] at h7
    simp at h7
  · have e1 : (rowsOf us hs)[j]?.getD [] = rowOf us (hs[j]?.getD Hr0) := by simp [rowsOf, show j < hs.length by omega]
    have e2 : (rowOf us (hs[j]?.getD Hr0))[q]?.getD none = supH us (hs[j]?.getD Hr0) (bitsN n q) := by simp [rowOf, hnl, hq]
    rw [e1, e2]
    exact ⟨((h6 j hj).cell (q * 2)).trans (rowA_even hq), ((h6 j hj).cell (q * 2 + 1)).trans (rowA_odd hq)⟩
/-- States of a unit, counted from the longest hold. -/
def Vd (us : List Un) (i j b : Nat) : Prop := -(us[i]?.getD U0).dn ≤ (j : Int) - 6 ∧ (j : Int) - 6 ≤ (us[i]?.getD U0).up ∧ b < 2
def D3 (us : List Un) (i : Nat) (i' j' b' : Nat) : Prop := Vd us i' j' b' ∧ i' < i
def D4 (us : List Un) (i j : Nat) (i' j' b' : Nat) : Prop := Vd us i' j' b' ∧ (i' < i ∨ (i' = i ∧ j' < j))
def D5 (us : List Un) (i j b : Nat) (i' j' b' : Nat) : Prop := Vd us i' j' b' ∧ (i' < i ∨ (i' = i ∧ (j' < j ∨ (j' = j ∧ b' < b))))
theorem L3.weak {us : List Un} {hs : List Hr} {A : Option Addr} {n c m : Nat} {w : World} {As : Option Addr} {ca : Nat} {D D' : Nat → Nat → Nat → Prop} {wr : World} (h : L3 us hs A n c m w As ca D wr) (hD : ∀ i j b, D' i j b → D i j b) : L3 us hs A n c m w As ca D' wr := by
  obtain ⟨h1, h2, h3, cs, h4, h5⟩ := h
  exact ⟨h1, h2, h3, cs, h4, h5.weak hD⟩
theorem L3.keep {us : List Un} {hs : List Hr} {A : Option Addr} {n c m : Nat} {w : World} {As : Option Addr} {ca : Nat} {D : Nat → Nat → Nat → Prop} {wr w' : World} (h : L3 us hs A n c m w As ca D wr) (hb : Kp wr w') : L3 us hs A n c m w As ca D w' := by
  obtain ⟨h1, h2, h3, cs, h4, h5⟩ := h
  exact ⟨Kp.trans h1 hb, (hb.block _ (Array.getElem?_eq_some_iff.1 h2).1).trans h2, h3.below hb, cs, hb.blk h4, h5⟩
theorem L3.put {us : List Un} {hs : List Hr} {A : Option Addr} {n c m : Nat} {w : World} {As : Option Addr} {ca : Nat} {D D' : Nat → Nat → Nat → Prop} {wr : World} (h : L3 us hs A n c m w As ca D wr) {i j b : Nat} (hi : i < 5) (hj : j < 13) (hb : b < 2) {t x : Value}
    (ht : t = .bool (unext (us[i]?.getD U0) ((j : Int) - 6) (b == 1)).isSome) (hx : x = .int .i64 ((unext (us[i]?.getD U0) ((j : Int) - 6) (b == 1)).getD 0)) (hD : ∀ i' j' b', D' i' j' b' → D i' j' b' ∨ (i' = i ∧ j' = j ∧ b' = b)) :
    L3 us hs A n c m w As ca D' ((wr.setCell ⟨w.heap.size + 1, 3 + i * 52 + j * 4 + b * 2, none⟩ t).setCell ⟨w.heap.size + 1, 3 + i * 52 + j * 4 + b * 2 + 1, none⟩ x) := by
  obtain ⟨h1, h2, h3, cs, h4, h5⟩ := h
  refine ⟨(h1.set (p := ⟨w.heap.size + 1, _, none⟩) (Nat.le_succ _) _).set (p := ⟨w.heap.size + 1, _, none⟩) (Nat.le_succ _) _, ?_, (SupX.set (p := ⟨w.heap.size + 1, _, none⟩) (SupX.set (p := ⟨w.heap.size + 1, _, none⟩) h3)), _, (h4.set _ t).set _ x, h5.put hi hj hb ht hx hD⟩
  exact (Below.heap_setCell _ ⟨w.heap.size + 1, _, none⟩ _ _ (by simp)).trans ((Below.heap_setCell _ ⟨w.heap.size + 1, _, none⟩ _ _ (by simp)).trans h2)
theorem L3.blk {us : List Un} {hs : List Hr} {A : Option Addr} {n c m : Nat} {w : World} {As : Option Addr} {ca : Nat} {D : Nat → Nat → Nat → Prop} {wr : World} (h : L3 us hs A n c m w As ca D wr) {i j b : Nat} (hi : i < 5) (hj : j < 13) (hb : b < 2) :
    (∃ v, wr.cell? ⟨w.heap.size + 1, 3 + i * 52 + j * 4 + b * 2, none⟩ = some v) ∧ (∃ v, wr.cell? ⟨w.heap.size + 1, 3 + i * 52 + j * 4 + b * 2 + 1, none⟩ = some v) ∧ wr.frozen? ⟨w.heap.size + 1, 3 + i * 52 + j * 4 + b * 2, none⟩ = false ∧ wr.frozen? ⟨w.heap.size + 1, 3 + i * 52 + j * 4 + b * 2 + 1, none⟩ = false := by
  obtain ⟨_, _, _, cs, h4, h5⟩ := h
  have hs := h5.size
  exact ⟨⟨_, (h4.cell _).trans (Array.getElem?_eq_getElem (by omega))⟩, ⟨_, (h4.cell _).trans (Array.getElem?_eq_getElem (by omega))⟩, h4.frozen _, h4.frozen _⟩

end Go.Proofs.YtdoeejcmaeefcaaGreat
