/-
Contracts of the small functions of package whole: trim, low, small, build, compareWords. Contracts of compareWords, FromInt64, Int64, Sign, Neg and Cmp of package whole. Contracts of FromInt64, Int64, Sign, Neg and Cmp of package whole. No statement of the seat is proved here; no conditions beyond those of each theorem.
-/
import Derived.Test.YtjajigkacccdgaaGreatTdAA
import Derived.Deep.RegionHeld3
namespace Go.Proofs.YtjajigkacccdgaaGreat
set_option linter.unusedVariables false
set_option linter.unusedSimpArgs false
open Go.RowKit
open Wd

def lenOf : Value → Nat | .slice _ n _ => n | _ => 0
theorem ret_int {k : IntKind} {a b : Int} (h : a = b) : Ending.returned (.int k a) = .returned (.int k b) := by rw [h]

theorem take_pred {l : List Nat} {k : Nat} (hk : k < l.length) (hz : l[k]?.getD 0 = 0) : val (l.take (k + 1)) = val (l.take k) := by
 rw [List.take_succ_eq_append_getElem hk]
 rw [List.getElem?_eq_getElem hk] at hz
 simp only [Option.getD_some] at hz
 rw [hz, val_snoc_zero]

theorem take_done {l : List Nat} (hw : Ws l) {k : Nat} (hk : k < l.length) (hz : l[k]?.getD 0 ≠ 0) : digs (val (l.take (k + 1))) = l.take (k + 1) := by
 refine digs_val (hw.take _) ?_
 rw [List.take_succ_eq_append_getElem hk]
 rw [List.getElem?_eq_getElem hk] at hz
 rw [List.getLast?_append]
 simpa using hz

set_option maxHeartbeats 400000 in
theorem trim_any (A : Option Addr) (n c : Nat) (l : List Nat) (w : World) (h : Wat w A n l) (hnc : n ≤ c) (hm : n ≤ 9223372036854775807) :
  Calls Tryz.prog 141 #[.slice A n c] w fun e w' => e = .returned (.slice A (digs (val l)).length c) ∧ w = w' := by
 obtain ⟨hl, hws, hc⟩ := h
 have HL := Lib.hid hl
 clear hl
 go_enter Tryz.func141, Tryz.ntmps141
 go_wp2
 go_loop [0] (fun v => ∃ k : Nat, k ≤ n ∧ v = .slice A k c ∧ Hid (val (l.take k) = val l)) (fun v => lenOf v)
 case atStart => exact ⟨n, Nat.le_refl _, rfl, by have := HL.out; subst this; unfold Hid; rw [List.take_length]⟩
 case round =>
  obtain ⟨k, hk, rfl, hv⟩ := hrel
  by_cases h0 : k = 0
  ·subst h0
   go_wp2
   go_ret
   refine ⟨?_, rfl⟩
   have e : val l = 0 := by have := hv.out; rw [← this]; rfl
   rw [e, digs_zero]; rfl
  ·obtain ⟨k, rfl⟩ : ∃ j, k = j + 1 := ⟨k - 1, by omega⟩
   obtain ⟨b, o, rfl, hb, hcell⟩ := hc (by omega)
   have hck := hcell k (by omega)
   clear hcell hc h0
   go_wp2
   ·go_round
    case rel =>
     have hz : l[k]?.getD 0 = 0 := by have h : ((l[k]?.getD 0 : Nat) : Int) == 0 := by assumption
                                      simpa using h
     exact ⟨k, by omega, rfl, (take_pred (by have := HL.out; omega) hz).symm.trans hv.out⟩
    case measure => simp [lenOf]
   ·have hz : l[k]?.getD 0 ≠ 0 := by
     have h : (((l[k]?.getD 0 : Nat) : Int) == 0) = false := by assumption
     simpa using h
    have hd := take_done hws (k := k) (by have := HL.out; omega) hz
    go_ret
    refine ⟨?_, rfl⟩
    rw [← hv.out, hd, List.length_take, Nat.min_eq_left (by have := HL.out; omega)]
    rfl

theorem or_shift (a b : Nat) (ha : a < 4294967296) (hb : b < 4294967296) : a ||| (b * 4294967296) = a + 4294967296 * b := by
 rw [Nat.or_comm, nat_join 32 _ _ (by omega) (by omega)]; omega

set_option maxHeartbeats 400000 in
theorem low_any (A : Option Addr) (n c : Nat) (l : List Nat) (w : World) (h : Wat w A n l) (hn : n ≤ 2) :
  Calls Tryz.prog 143 #[.slice A n c] w fun e w' => e = .returned (.int .u64 (val l : Nat)) ∧ ∃ k, w' = w.drewN k := by
 obtain ⟨hl, hws, hc⟩ := h
 match l, hl with
 | [], hl =>
  obtain rfl : 0 = n := hl
  go_enter Tryz.func143, Tryz.ntmps143
  go_wp2
  go_ret
  exact ⟨rfl, 0, rfl⟩
 | [x], hl =>
  obtain rfl : 1 = n := hl
  obtain ⟨b, o, rfl, hb, hcell⟩ := hc (by omega)
  have hc0 : w.cell? ⟨b, o, none⟩ = some (.int .u32 (x : Int)) := hcell 0 (by omega)
  have hx := hws.head
  clear hcell hc hws hl
  go_enter Tryz.func143, Tryz.ntmps143
  go_wp2
  go_ret
  exact ⟨ret_int (by simp [val]), 0, rfl⟩
 | [x, y], hl =>
  obtain rfl : 2 = n := hl
  obtain ⟨b, o, rfl, hb, hcell⟩ := hc (by omega)
  have hc0 : w.cell? ⟨b, o, none⟩ = some (.int .u32 (x : Int)) := hcell 0 (by omega)
  have hc1 : w.cell? ⟨b, o + 1, none⟩ = some (.int .u32 (y : Int)) := hcell 1 (by omega)
  have hx := hws.head
  have hy := hws.tail.head
  clear hcell hc hws hl
  go_enter Tryz.func143, Tryz.ntmps143
  go_wp2
  go_quiet (fail)
  go_wp2
  go_ret
  refine ⟨ret_int ?_, nq, rfl⟩
  rw [show ((y : Int) * 4294967296) = ((y * 4294967296 : Nat) : Int) by omega, u64_or_nat _ _ (by omega) (by omega), or_shift _ _ hx hy]
  simp [val]
 | _ :: _ :: _ :: _, hl => simp at hl; omega

theorem wat_one (w : World) (x : Nat) (hx : x < 4294967296) (t : TypeId) (b : Nat) (hb : w.heap[b]? = some (.cells #[.int .u32 (x : Int)] t (0, 0))) (base : Nat) (h : base ≤ b) :
  Wat w (some ⟨b, 0, none⟩) 1 [x] ∧ Fresh base w (some ⟨b, 0, none⟩) 1 := by
 have hlt : b < w.heap.size := by
  rcases Nat.lt_or_ge b w.heap.size with hlt | hge
  ·exact hlt
  ·rw [Array.getElem?_eq_none hge] at hb; cases hb
 refine ⟨⟨rfl, Ws.cons hx Ws.nil, fun _ => ⟨b, 0, rfl, hlt, fun j hj => ?_⟩⟩, fun _ => ⟨b, 0, rfl, h, fun j hj => ?_⟩⟩
 ·obtain rfl : j = 0 := by omega
  simp [World.cell?, hb]
 ·simp [World.frozen?, hb]

theorem wat_two (w : World) (x y : Nat) (hx : x < 4294967296) (hy : y < 4294967296) (t : TypeId) (b : Nat) (hb : w.heap[b]? = some (.cells #[.int .u32 (x : Int), .int .u32 (y : Int)] t (0, 0))) (base : Nat) (h : base ≤ b) :
  Wat w (some ⟨b, 0, none⟩) 2 [x, y] ∧ Fresh base w (some ⟨b, 0, none⟩) 2 := by
 have hlt : b < w.heap.size := by
  rcases Nat.lt_or_ge b w.heap.size with hlt | hge
  ·exact hlt
  ·rw [Array.getElem?_eq_none hge] at hb; cases hb
 refine ⟨⟨rfl, Ws.cons hx (Ws.cons hy Ws.nil), fun _ => ⟨b, 0, rfl, hlt, fun j hj => ?_⟩⟩, fun _ => ⟨b, 0, rfl, h, fun j hj => ?_⟩⟩
 ·rcases (by omega : j = 0 ∨ j = 1) with rfl | rfl <;> simp [World.cell?, hb]
 ·simp [World.frozen?, hb]

set_option maxHeartbeats 400000 in
theorem small_any (neg : Bool) (n : Nat) (w : World) (hn : n < 18446744073709551616) :
  Calls Tryz.prog 135 #[.bool neg, .int .u64 (n : Int)] w (RetZ w (sg neg n)) := by
 by_cases h0 : n = 0
 ·subst h0
  go_enter Tryz.func135, Tryz.ntmps135
  go_wp2
  refine bodyPost_ret (v := .agg #[.bool false, .slice none 0 0]) (by simp [results, Tryz.results135, go_sem]) rfl ⟨none, 0, 0, ?_, Nat.le_refl _, ?_, Fresh.nil, (Below.refl _ _).alloc (Nat.le_refl _) _⟩
  ·rw [sg_zero]; rfl
  ·rw [sg_zero]; simp [digs_zero, Wat.nil]
 ·have e1 := sg_neg (neg := neg) h0
  have e2 := sg_natAbs neg n
  have E1 := Lib.hid e1
  have E2 := Lib.hid e2
  clear e1 e2
  by_cases h1 : n < 4294967296
  ·have hne : ((n : Int) == 0) = false := by simpa using h0
   have hsh : ((n : Int) / 4294967296 == 0) = true := by simp; omega
   go_enter Tryz.func135, Tryz.ntmps135
   go_wp2
   have hw2 := wat_one ((w.alloc (Obj.cells #[Value.bool neg, Value.slice (some { block := w.heap.size + 1, off := 0 }) 1 1] 40)).alloc (Obj.cells #[Value.int IntKind.u32 (n : Int)] 59)) n h1 59 (w.heap.size + 1) (heap_new2 _ _ _) w.heap.size (by omega)
   refine bodyPost_ret (v := .agg #[.bool neg, .slice (some ⟨w.heap.size + 1, 0, none⟩) 1 1]) (by simp [results, Tryz.results135, go_sem]) rfl ⟨_, 1, 1, by rw [E1.out], Nat.le_refl _, ?_, hw2.2, ((Below.refl _ _).alloc (Nat.le_refl _) _).alloc (by simp) _⟩
   rw [E2.out, digs_small h0 h1]; exact hw2.1
  ·have hne : ((n : Int) == 0) = false := by simpa using h0
   have hsh : ((n : Int) / 4294967296 == 0) = false := by simp; omega
   go_enter Tryz.func135, Tryz.ntmps135
   go_wp2
   have hw2 := wat_two ((w.alloc (Obj.cells #[Value.bool neg, Value.slice (some { block := w.heap.size + 1, off := 0 }) 2 2] 40)).alloc (Obj.cells #[Value.int IntKind.u32 ((n : Int) % 4294967296), Value.int IntKind.u32 ((n : Int) / 4294967296)] 59)) (n % 4294967296) (n / 4294967296) (by omega) (by omega) 59 (w.heap.size + 1) (heap_new2 _ _ _) w.heap.size (by omega)
   refine bodyPost_ret (v := .agg #[.bool neg, .slice (some ⟨w.heap.size + 1, 0, none⟩) 2 2]) (by simp [results, Tryz.results135, go_sem]) rfl ⟨_, 2, 2, by rw [E1.out], Nat.le_refl _, ?_, hw2.2, ((Below.refl _ _).alloc (Nat.le_refl _) _).alloc (by simp) _⟩
   rw [E2.out, digs_two (by omega) hn]; exact hw2.1

/-- 'build' takes the memory over: the result lies where the words lie. -/
def RetIn (w : World) (A : Option Addr) (c : Nat) (z : Int) (e : Ending) (w' : World) : Prop :=
 ∃ A' c', e = .returned (.agg #[.bool (decide (z < 0)), .slice A' (digs z.natAbs).length c']) ∧ (z ≠ 0 → A' = A ∧ c' = c) ∧ (z = 0 → A' = none ∧ c' = 0) ∧ Below w.heap.size w w'

set_option maxHeartbeats 400000 in
theorem build_any (neg : Bool) (A : Option Addr) (n c : Nat) (l : List Nat) (w : World) (h : Wat w A n l) (hnc : n ≤ c) (hm : n ≤ 9223372036854775807) :
  Calls Tryz.prog 144 #[.bool neg, .slice A n c] w (RetIn w A c (sg neg (val l))) := by
 by_cases h0 : val l = 0
 ·have H0 := Lib.hid h0
  clear h0
  go_enter Tryz.func144, Tryz.ntmps144
  go_wp2_with fail
  refine (trim_any A n c l _ (h.alloc _) hnc hm).mono ?_
  rw [H0.out, digs_zero]
  rintro e w' ⟨rfl, rfl⟩
  go_wp2
  refine bodyPost_ret (v := .agg #[.bool false, .slice none 0 0]) (by simp [results, Tryz.results144, go_sem]) rfl ⟨none, 0, ?_, fun hh => absurd (by rw [H0.out, sg_zero]) hh, fun _ => ⟨rfl, rfl⟩, (Below.refl _ _).alloc (Nat.le_refl _) _⟩
  rw [H0.out, sg_zero]; simp [digs_zero]
 ·have e1 := sg_neg (neg := neg) h0
  have e2 := sg_natAbs neg (val l)
  have E1 := Lib.hid e1
  have E2 := Lib.hid e2
  have hlen : (digs (val l)).length ≠ 0 := fun hh => h0 (digs_nil (List.eq_nil_of_length_eq_zero hh))
  have hle : (digs (val l)).length ≤ n := by
   have := digs_len_le.2 (val_lt h.2.1); rw [h.1] at this; exact this
  clear e1 e2
  generalize hk : (digs (val l)).length = k at *
  have HK := Lib.hid hk
  clear hk
  have hk0 : ((k : Int) == 0) = false := by simpa using hlen
  go_enter Tryz.func144, Tryz.ntmps144
  go_wp2_with fail
  refine (trim_any A n c l _ (h.alloc _) hnc hm).mono ?_
  rw [HK.out]
  rintro e w' ⟨rfl, rfl⟩
  go_wp2
  refine bodyPost_ret (v := .agg #[.bool neg, .slice A k c]) (by simp [results, Tryz.results144, go_sem]) rfl ⟨A, c, ?_, fun _ => ⟨rfl, rfl⟩, fun hh => ?_, (Below.refl _ _).alloc (Nat.le_refl _) _⟩
  ·rw [E1.out, E2.out, HK.out]
  ·have := congrArg Int.natAbs hh
   rw [E2.out] at this
   exact absurd this h0

end Go.Proofs.YtjajigkacccdgaaGreat

namespace Go.Proofs.YtjajigkacccdgaaGreat
set_option linter.unusedVariables false
set_option linter.unusedSimpArgs false
open Go.RowKit
open Wd

/-- The sign of a difference, as Go's comparisons return it. -/
def cmpI (a b : Int) : Int := if a < b then -1 else if b < a then 1 else 0
theorem cmpI_lt {a b : Int} (h : a < b) : cmpI a b = -1 := by unfold cmpI; rw [if_pos h]
theorem cmpI_gt {a b : Int} (h : b < a) : cmpI a b = 1 := by unfold cmpI; rw [if_neg (by omega), if_pos h]
theorem cmpI_eq {a b : Int} (h : a = b) : cmpI a b = 0 := by unfold cmpI; rw [if_neg (by omega), if_neg (by omega)]

theorem len_lt_of {a b : Nat} (h : (digs a).length < (digs b).length) : a < b := by
 have h1 := digs_len_lt.1 (Nat.lt_of_lt_of_le (Nat.lt_succ_self _) h : (digs b).length > (digs a).length)
 have h2 := digs_len_le.1 (Nat.le_refl (digs a).length)
 omega

set_option maxHeartbeats 1000000 in
theorem compareWords_any (A A' : Option Addr) (n n' c c' : Nat) (x y : Nat) (w : World) (h : Wat w A n (digs x)) (h' : Wat w A' n' (digs y)) (hm : n ≤ 9223372036854775807) (hm' : n' ≤ 9223372036854775807) :
  Calls Tryz.prog 142 #[.slice A n c, .slice A' n' c'] w fun e w' => e = .returned (.int .i64 (cmpI x y)) ∧ ∃ k, w' = w.drewN k := by
 obtain ⟨hl, hws, hc⟩ := h
 obtain ⟨hl', hws', hc'⟩ := h'
 by_cases hlt : n < n'
 ·have hv := len_lt_of (a := x) (b := y) (by omega)
  have e : cmpI x y = -1 := cmpI_lt (by omega)
  have hne : ((n : Int) != (n' : Int)) = true := by simp; omega
  clear hl hl' hc hc'
  rw [e]
  go_enter Tryz.func142, Tryz.ntmps142
  go_wp2
  go_ret
  exact ⟨rfl, 0, rfl⟩
 ·by_cases hgt : n' < n
  ·have hv := len_lt_of (a := y) (b := x) (by omega)
   have e : cmpI x y = 1 := cmpI_gt (by omega)
   have hne : ((n : Int) != (n' : Int)) = true := by simp; omega
   clear hl hl' hc hc'
   rw [e]
   go_enter Tryz.func142, Tryz.ntmps142
   go_wp2
   go_ret
   exact ⟨rfl, 0, rfl⟩
  ·obtain rfl : n' = n := by omega
   have HL := Lib.hid hl
   have HL' := Lib.hid hl'
   have hne : ((n' : Int) != (n' : Int)) = false := by simp
   clear hlt hgt hl hl'
   go_enter Tryz.func142, Tryz.ntmps142
   go_wp2
   go_loopw [5] (fun i wr => ∃ (k q : Nat), k ≤ n' ∧ i = .int .i64 ((k : Int) - 1) ∧ wr = w.drewN q ∧ Hid (∀ j, k ≤ j → (digs x)[j]?.getD 0 = (digs y)[j]?.getD 0)) (fun i _ => (intOf i + 1).toNat)
   case atStart =>
    refine ⟨n', 0, Nat.le_refl _, rfl, rfl, fun j hj => ?_⟩
    rw [List.getElem?_eq_none (by have := HL.out; omega), List.getElem?_eq_none (by have := HL'.out; omega)]
   case round =>
    obtain ⟨k, q, hk, rfl, rfl, hu⟩ := hrel
    by_cases h0 : k = 0
    ·subst h0
     have e : cmpI x y = 0 := by
      have hxy : digs x = digs y := by
       apply List.ext_getElem (HL.out.trans HL'.out.symm)
       intro j h1 h2
       have := hu.out j (Nat.zero_le _)
       rw [List.getElem?_eq_getElem h1, List.getElem?_eq_getElem h2] at this
       simpa using this
      have := congrArg val hxy
      rw [val_digs, val_digs] at this
      exact cmpI_eq (by omega)
     have E := Lib.hid e
     clear e
     go_wp2
     go_ret
     rw [E.out]
     exact ⟨rfl, _, rfl⟩
    ·obtain ⟨k, rfl⟩ : ∃ j, k = j + 1 := ⟨k - 1, by omega⟩
     obtain ⟨b, o, rfl, hb, hcell⟩ := hc (by omega)
     obtain ⟨b', o', rfl, hb', hcell'⟩ := hc' (by omega)
     have hck := hcell k (by omega)
     have hck' := hcell' k (by omega)
     clear hcell hcell' hc hc' h0
     rw [show ((k + 1 : Nat) : Int) - 1 = (k : Int) by omega]
     generalize hp : (digs x)[k]?.getD 0 = p at *
     generalize hq : (digs y)[k]?.getD 0 = p' at *
     have HP := Lib.hid hp
     have HQ := Lib.hid hq
     have kx : k < (digs x).length := by have := HL.out; omega
     have ky : k < (digs y).length := by have := HL'.out; omega
     have px : (digs x)[k] = p := by rw [List.getElem?_eq_getElem kx] at hp; exact hp
     have py : (digs y)[k] = p' := by rw [List.getElem?_eq_getElem ky] at hq; exact hq
     have PX := Lib.hid px
     have PY := Lib.hid py
     clear hp hq px py
     have hi0 : (0 : Int) ≤ (k : Int) := by omega
     have hi1 : (k : Int) < (n' : Int) := by omega
     rcases Nat.lt_trichotomy p p' with hlt | heq | hgt
     ·have hv : x < y := by
       have := val_lt_of_top hws k kx ky (by rw [PX.out, PY.out]; exact hlt) (fun j hj => hu.out j hj) (HL.out.trans HL'.out.symm)
       rwa [val_digs, val_digs] at this
      have e : cmpI x y = -1 := cmpI_lt (by omega)
      have E := Lib.hid e
      clear e hv
      have hb1 : ((p : Int) != (p' : Int)) = true := by simp; omega
      go_wp2
      go_quiet (fail)
      go_wp2
      go_quiet (fail)
      go_wp2
      go_ret
      rw [E.out]
      exact ⟨rfl, _, by rw [World.drewN_drewN, World.drewN_drewN]⟩
     ·subst heq
      have hb1 : ((p : Int) != (p : Int)) = false := by simp
      go_wp2
      go_quiet (fail)
      go_wp2
      go_roundw
      case rel =>
       refine ⟨k, _, by omega, rfl, rfl, fun j hj => ?_⟩
       rcases Nat.eq_or_lt_of_le hj with rfl | hj
       ·rw [HP.out, HQ.out]
       ·exact hu.out j hj
      case measure => simp [intOf]
     ·have hv : y < x := by
       have := val_lt_of_top hws' k ky kx (by rw [PX.out, PY.out]; exact hgt) (fun j hj => (hu.out j hj).symm) (HL'.out.trans HL.out.symm)
       rwa [val_digs, val_digs] at this
      have e : cmpI x y = 1 := cmpI_gt (by omega)
      have E := Lib.hid e
      clear e hv
      have hb1 : ((p : Int) != (p' : Int)) = true := by simp; omega
      go_wp2
      go_quiet (fail)
      go_wp2
      go_quiet (fail)
      go_wp2
      go_ret
      rw [E.out]
      exact ⟨rfl, _, by rw [World.drewN_drewN, World.drewN_drewN]⟩

end Go.Proofs.YtjajigkacccdgaaGreat

namespace Go.Proofs.YtjajigkacccdgaaGreat
set_option linter.unusedVariables false
set_option linter.unusedSimpArgs false
open Go.RowKit
open Wd

theorem RetZ.mono {w0 w : World} {z : Int} {e : Ending} {w' : World} (hb : Below w0.heap.size w0 w) (h : RetZ w z e w') : RetZ w0 z e w' := by
 obtain ⟨A, k, c, he, hk, hW, hF, hB⟩ := h
 exact ⟨A, k, c, he, hk, hW, hF.mono hb.size, hb.trans (hB.mono hb.size)⟩

set_option maxHeartbeats 400000 in
theorem fromInt64_any (z : Int) (w : World) (h1 : -9223372036854775808 ≤ z) (h2 : z ≤ 9223372036854775807) :
  Calls Tryz.prog 88 #[.int .i64 z] w (RetZ w z) := by
 by_cases hz : z < 0
 ·have hw : IntKind.u64.wrap (-(IntKind.u64.wrap z)) = (z.natAbs : Int) := by
   rw [IntKind.wrap_u64, IntKind.wrap_u64]; omega
  have HW := Lib.hid hw
  clear hw
  have hsg : sg true z.natAbs = z := by unfold sg; simp; omega
  have HS := Lib.hid hsg
  clear hsg
  go_enter Tryz.func88, Tryz.ntmps88
  go_wp2_with fail
  rw [HW.out]
  have hg := Blk.new w 40 #[.bool false, .slice none 0 0]
  refine (small_any true z.natAbs _ (by omega)).mono ?_
  rw [HS.out]
  rintro e w1 ⟨A, k, c, rfl, hk, hW, hF, hB⟩
  rw [World.size_alloc] at hF
  have hg1 := hg.below hB (by simp)
  have hg2 := hg1.set2 (.bool (decide (z < 0))) (.slice A k c)
  have hb2 := below_set2 (below_of_alloc hB) (Nat.le_refl w.heap.size) (.bool (decide (z < 0))) (.slice A k c)
  obtain ⟨hW2, hF2⟩ := store2_far (.bool (decide (z < 0))) (.slice A k c) hW hF
  obtain ⟨c0, c1, f0, f1⟩ := hg1.two
  clear hg hB HW HS hW hF
  have HZ := Lib.hid hz
  clear hz
  go_wp2
  obtain ⟨d0, d1, -, -⟩ := hg2.two
  refine bodyPost_ret (v := .agg #[.bool (decide (z < 0)), .slice A k c]) ?_ rfl ⟨A, k, c, rfl, hk, hW2, hF2, hb2⟩
  simp [results, Tryz.results88, go_sem, d0, d1]
 ·obtain ⟨n, rfl⟩ : ∃ n : Nat, z = n := ⟨z.natAbs, by omega⟩
  have hsg : sg false n = n := by unfold sg; simp
  have HS := Lib.hid hsg
  clear hsg
  go_enter Tryz.func88, Tryz.ntmps88
  go_wp2_with fail
  have hg := Blk.new w 40 #[.bool false, .slice none 0 0]
  refine (small_any false n _ (by omega)).mono ?_
  rw [HS.out]
  rintro e w1 ⟨A, k, c, rfl, hk, hW, hF, hB⟩
  generalize (n : Int) = z at *
  rw [World.size_alloc] at hF
  have hg1 := hg.below hB (by simp)
  have hg2 := hg1.set2 (.bool (decide (z < 0))) (.slice A k c)
  have hb2 := below_set2 (below_of_alloc hB) (Nat.le_refl w.heap.size) (.bool (decide (z < 0))) (.slice A k c)
  obtain ⟨hW2, hF2⟩ := store2_far (.bool (decide (z < 0))) (.slice A k c) hW hF
  obtain ⟨c0, c1, f0, f1⟩ := hg1.two
  clear hg hB HS hW hF
  have HZ := Lib.hid hz
  clear hz
  go_wp2
  obtain ⟨d0, d1, -, -⟩ := hg2.two
  refine bodyPost_ret (v := .agg #[.bool (decide (z < 0)), .slice A k c]) ?_ rfl ⟨A, k, c, rfl, hk, hW2, hF2, hb2⟩
  simp [results, Tryz.results88, go_sem, d0, d1]

set_option maxHeartbeats 400000 in
theorem sign_any (neg : Bool) (A : Option Addr) (n c : Nat) (l : List Nat) (w : World) (h : Wat w A n l) (hnc : n ≤ c) (hm : n ≤ 9223372036854775807) :
  Calls Tryz.prog 94 #[.agg #[.bool neg, .slice A n c]] w fun e w' => e = .returned (.int .i64 (cmpI (sg neg (val l)) 0)) ∧ Below w.heap.size w w' := by
 by_cases h0 : val l = 0
 ·have e : cmpI (sg neg (val l)) 0 = 0 := by rw [h0, sg_zero]; rfl
  have hd : digs (val l) = [] := by rw [h0, digs_zero]
  have HD := Lib.hid hd
  have E := Lib.hid e
  clear e hd h0
  rw [E.out]
  go_enter Tryz.func94, Tryz.ntmps94
  go_wp2_with fail
  refine (trim_any A n c l _ (h.alloc _) hnc hm).mono ?_
  rw [HD.out]
  rintro e w' ⟨rfl, rfl⟩
  go_wp2
  go_ret
  exact ⟨rfl, (Below.refl _ _).alloc (Nat.le_refl _) _⟩
 ·have hlen : (digs (val l)).length ≠ 0 := fun hh => h0 (digs_nil (List.eq_nil_of_length_eq_zero hh))
  have e : cmpI (sg neg (val l)) 0 = if neg then -1 else 1 := by
   unfold sg; cases neg
   ·exact cmpI_gt (by simp; omega)
   ·exact cmpI_lt (by simp; omega)
  have E := Lib.hid e
  clear e
  generalize hk : (digs (val l)).length = k at *
  have HK := Lib.hid hk
  clear hk
  have hk0 : ((k : Int) == 0) = false := by simpa using hlen
  cases neg
  all_goals
   rw [E.out]
   go_enter Tryz.func94, Tryz.ntmps94
   go_wp2_with fail
   refine (trim_any A n c l _ (h.alloc _) hnc hm).mono ?_
   rw [HK.out]
   rintro e w' ⟨rfl, rfl⟩
   go_wp2
   go_ret
   exact ⟨rfl, (Below.refl _ _).alloc (Nat.le_refl _) _⟩

theorem cmpI_flip (a b : Nat) : cmpI (-(a : Int)) (-(b : Int)) = cmpI b a := by
 unfold cmpI
 split <;> split <;> (try split) <;> (try split) <;> omega
theorem sg_of_neg {neg : Bool} {n : Nat} (h : sg neg n < 0) : sg neg n = -(n : Int) := by
 unfold sg at *; cases neg <;> simp at * <;> omega
theorem sg_of_pos {neg : Bool} {n : Nat} (h : 0 ≤ sg neg n) : sg neg n = (n : Int) := by
 unfold sg at *; cases neg <;> simp at * <;> omega
theorem cmp_cases (a b : Int) : (cmpI a 0 < cmpI b 0 ∧ cmpI a b = -1) ∨ (cmpI b 0 < cmpI a 0 ∧ cmpI a b = 1) ∨ (cmpI a 0 = cmpI b 0 ∧ cmpI a 0 < 0 ∧ a < 0 ∧ b < 0) ∨ (cmpI a 0 = cmpI b 0 ∧ 0 ≤ cmpI a 0 ∧ 0 ≤ a ∧ 0 ≤ b) := by
 unfold cmpI
 by_cases h1 : a < 0 <;> by_cases h2 : b < 0 <;> by_cases h3 : 0 < a <;> by_cases h4 : 0 < b <;> by_cases h5 : a < b <;> by_cases h6 : b < a <;> simp [h1, h2, h3, h4, h5, h6] <;> omega

theorem quiet_left {P : Program} {f : FuncId} {args : Array Value} {w : World} {n : Nat} {v : Value}
  (h : Calls P f args (w.drewN n) fun e w' => e = .returned v ∧ w.drewN n = w') : Calls P f args (w.drewN n) fun e w'' => e = .returned v ∧ ∃ m, w'' = w.drewN m :=
 h.mono fun _ _ ⟨he, hm⟩ => ⟨he, n, hm.symm⟩

set_option maxHeartbeats 1000000 in
theorem cmp_any (neg neg' : Bool) (A A' : Option Addr) (n n' c c' : Nat) (l l' : List Nat) (w : World) (h : Wat w A n l) (h' : Wat w A' n' l') (hnc : n ≤ c) (hnc' : n' ≤ c') (hm : n ≤ 9223372036854775807) (hm' : n' ≤ 9223372036854775807) :
  Calls Tryz.prog 96 #[.agg #[.bool neg, .slice A n c], .agg #[.bool neg', .slice A' n' c']] w fun e w' => e = .returned (.int .i64 (cmpI (sg neg (val l)) (sg neg' (val l')))) ∧ Below w.heap.size w w' := by
 generalize hx : cmpI (sg neg (val l)) 0 = x
 generalize hy : cmpI (sg neg' (val l')) 0 = y
 have HX := Lib.hid hx
 have HY := Lib.hid hy
 clear hx hy
 go_enter Tryz.func96, Tryz.ntmps96
 go_wp2_with fail
 have hA := (Blk.new w 40 #[.bool neg, .slice A n c]).alloc (.cells #[.bool neg', .slice A' n' c'] 40)
 have hA' := Blk.new (w.alloc (.cells #[.bool neg, .slice A n c] 40)) 40 #[.bool neg', .slice A' n' c']
 rw [World.size_alloc] at hA'
 have hBW : Below w.heap.size w ((w.alloc (.cells #[.bool neg, .slice A n c] 40)).alloc (.cells #[.bool neg', .slice A' n' c'] 40)) := ((Below.refl _ _).alloc (Nat.le_refl _) _).alloc (by simp) _
 generalize (w.alloc (.cells #[.bool neg, .slice A n c] 40)).alloc (.cells #[.bool neg', .slice A' n' c'] 40) = W at *
 have hS : ∀ w', Kp W w' → (w'.cell? ⟨w.heap.size, 0, none⟩ = some (.bool neg) ∧ w'.cell? ⟨w.heap.size, 1, none⟩ = some (.slice A n c) ∧ w'.cell? ⟨w.heap.size + 1, 0, none⟩ = some (.bool neg') ∧ w'.cell? ⟨w.heap.size + 1, 1, none⟩ = some (.slice A' n' c')) ∧ Kp W w' := fun w' hk =>
  ⟨⟨(hk.blk hA).cell 0, (hk.blk hA).cell 1, (hk.blk hA').cell 0, (hk.blk hA').cell 1⟩, hk⟩
 have HS := Lib.hid hS
 obtain ⟨⟨s0, s1, s2, s3⟩, s4⟩ := hS W (Kp.refl W)
 have hw1 := h.below hBW
 have hw2 := h'.below hBW
 clear hS hA hA'
 go_region_held3 (fun w' => (w'.cell? ⟨w.heap.size, 0, none⟩ = some (.bool neg) ∧ w'.cell? ⟨w.heap.size, 1, none⟩ = some (.slice A n c) ∧ w'.cell? ⟨w.heap.size + 1, 0, none⟩ = some (.bool neg') ∧ w'.cell? ⟨w.heap.size + 1, 1, none⟩ = some (.slice A' n' c')) ∧ Kp W w')
  (first | exact HS.out _ (by assumption) | exact HS.out _ (Kp.drew (by assumption)) | exact HS.out _ (Kp.drew (And.right (by assumption))))
  (first
   | (go_at_call_of 94 (Value.agg #[.bool neg, .slice A n c]); have hk := And.right ‹(_ ∧ _ ∧ _ ∧ _) ∧ Kp W _›; refine (sign_any neg A n c l _ (hw1.below hk) hnc hm).mono ?_; rw [HX.out]; rintro e w1 ⟨rfl, hb⟩; have hk1 := hk.trans hb; clear hk hb)
   | (go_at_call_of 94 (Value.agg #[.bool neg', .slice A' n' c']); have hk := And.right ‹(_ ∧ _ ∧ _ ∧ _) ∧ Kp W _›; refine (sign_any neg' A' n' c' l' _ (hw2.below hk) hnc' hm').mono ?_; rw [HY.out]; rintro e w1 ⟨rfl, hb⟩; have hk2 := hk.trans hb; clear hk hb))
 rename_i hHeld
 obtain ⟨⟨t0, t1, t2, t3⟩, hkp⟩ := hHeld
 have hB1 : Below w.heap.size w w1 := hBW.trans (Below.mono hkp hBW.size)
 have hv1 := h.below hB1
 have hv2 := h'.below hB1
 clear HS s0 s1 s2 s3 s4 hw1 hw2 hk1 hk2 hBW hkp
 have hx : x = cmpI (sg neg (val l)) 0 := HX.out.symm
 have hy : y = cmpI (sg neg' (val l')) 0 := HY.out.symm
 rcases cmp_cases (sg neg (val l)) (sg neg' (val l')) with ⟨h1, h2⟩ | ⟨h1, h2⟩ | ⟨h1, h2, h3, h4⟩ | ⟨h1, h2, h3⟩
 ·rw [← hx, ← hy] at h1
  have E := Lib.hid h2
  clear hx hy h2
  go_wp2
  go_ret
  rw [E.out]
  exact ⟨rfl, hB1⟩
 ·rw [← hx, ← hy] at h1
  have E := Lib.hid h2
  clear hx hy h2
  go_wp2
  go_ret
  rw [E.out]
  exact ⟨rfl, hB1⟩
 ·rw [← hx, ← hy] at h1
  rw [← hx] at h2
  subst h1
  have e : cmpI (val l') (val l) = cmpI (sg neg (val l)) (sg neg' (val l')) := by
   have a1 := sg_of_neg h3
   have a2 := sg_of_neg h4
   rw [a1, a2]; exact (cmpI_flip _ _).symm
  have E := Lib.hid e
  clear e hx hy h3 h4 HX HY
  have T1 := Lib.hid (fun W (hb : Below w1.heap.size w1 W) => trim_any A n c l W (hv1.below hb) hnc hm)
  have T2 := Lib.hid (fun W (hb : Below w1.heap.size w1 W) => trim_any A' n' c' l' W (hv2.below hb) hnc' hm')
  have T3 := Lib.hid (fun W (hb : Below w1.heap.size w1 W) => compareWords_any A' A _ _ c' c (val l') (val l) W (hv2.below hb).trim (hv1.below hb).trim (by have := hv2.trim_le; omega) (by have := hv1.trim_le; omega))
  go_wp2_with fail
  go_quiet ((first | (go_at_call_of 141 (Value.slice A n c); exact quiet_left (T1.out _ (belowN _ _))) | (go_at_call_of 141 (Value.slice A' n' c'); exact quiet_left (T2.out _ (belowN _ _))) | (go_at_call 142; exact Calls.quiet_of (T3.out _ (belowN _ _)))))
  go_wp2
  go_ret
  rw [← E.out]
  exact ⟨rfl, below_drewN hB1 _⟩
 ·rw [← hx, ← hy] at h1
  rw [← hx] at h2
  subst h1
  have e : cmpI (val l) (val l') = cmpI (sg neg (val l)) (sg neg' (val l')) := by
   have a1 := sg_of_pos h3.1
   have a2 := sg_of_pos h3.2
   rw [a1, a2]
  have E := Lib.hid e
  clear e hx hy h3 HX HY
  have T1 := Lib.hid (fun W (hb : Below w1.heap.size w1 W) => trim_any A n c l W (hv1.below hb) hnc hm)
  have T2 := Lib.hid (fun W (hb : Below w1.heap.size w1 W) => trim_any A' n' c' l' W (hv2.below hb) hnc' hm')
  have T3 := Lib.hid (fun W (hb : Below w1.heap.size w1 W) => compareWords_any A A' _ _ c c' (val l) (val l') W (hv1.below hb).trim (hv2.below hb).trim (by have := hv1.trim_le; omega) (by have := hv2.trim_le; omega))
  go_wp2_with fail
  go_quiet ((first | (go_at_call_of 141 (Value.slice A n c); exact quiet_left (T1.out _ (belowN _ _))) | (go_at_call_of 141 (Value.slice A' n' c'); exact quiet_left (T2.out _ (belowN _ _))) | (go_at_call 142; exact Calls.quiet_of (T3.out _ (belowN _ _)))))
  go_wp2
  go_ret
  rw [← E.out]
  exact ⟨rfl, below_drewN hB1 _⟩

end Go.Proofs.YtjajigkacccdgaaGreat
