/-
Contracts of the small functions of package whole: trim, low, small, build, compareWords. Contracts of compareWords, FromInt64, Int64, Sign, Neg and Cmp of package whole. No statement of the seat is proved here; no conditions beyond those of each theorem.
-/
import Derived.Test.YtjajigkacccdgaaGreatTbAA
namespace Go.Proofs.YtjajigkacccdgaaGreat
set_option linter.unusedVariables false
set_option linter.unusedSimpArgs false
open Go.RowKit
open Wd

def lenOf : Value → Nat | .slice _ n _ => n | _ => 0
theorem ret_int {k : IntKind} {a b : Int} (h : a = b) : Ending.returned (.int k a) = .returned (.int k b) := by rw [h]

theorem take_pred {l : List Nat} {k : Nat} (hk : k < l.length) (hz : l[k]?.getD 0 = 0) : val (l.take (k + 1)) = val (l.take k) := by
 rw [List.take_succ_eq_append_getElem hk]
 rw [List.getElem?_eq_getElem hk] at hz
 simp only [Option.getD_some] at hz
 rw [hz, val_snoc_zero]

theorem take_done {l : List Nat} (hw : Ws l) {k : Nat} (hk : k < l.length) (hz : l[k]?.getD 0 ≠ 0) : digs (val (l.take (k + 1))) = l.take (k + 1) := by
 refine digs_val (hw.take _) ?_
 rw [List.take_succ_eq_append_getElem hk]
 rw [List.getElem?_eq_getElem hk] at hz
 rw [List.getLast?_append]
 simpa using hz

set_option maxHeartbeats 400000 in
theorem trim_any (A : Option Addr) (n c : Nat) (l : List Nat) (w : World) (h : Wat w A n l) (hnc : n ≤ c) (hm : n ≤ 9223372036854775807) :
  Calls Tryz.prog 141 #[.slice A n c] w fun e w' => e = .returned (.slice A (digs (val l)).length c) ∧ w = w' := by
 obtain ⟨hl, hws, hc⟩ := h
 have HL := Lib.hid hl
 clear hl
 go_enter Tryz.func141, Tryz.ntmps141
 go_wp2
 go_loop [0] (fun v => ∃ k : Nat, k ≤ n ∧ v = .slice A k c ∧ Hid (val (l.take k) = val l)) (fun v => lenOf v)
 case atStart => exact ⟨n, Nat.le_refl _, rfl, by have := HL.out; subst this; unfold Hid; rw [List.take_length]⟩
 case round =>
  obtain ⟨k, hk, rfl, hv⟩ := hrel
  by_cases h0 : k = 0
  ·subst h0
   go_wp2
   go_ret
   refine ⟨?_, rfl⟩
   have e : val l = 0 := by have := hv.out; rw [← this]; rfl
   rw [e, digs_zero]; rfl
  ·obtain ⟨k, rfl⟩ : ∃ j, k = j + 1 := ⟨k - 1, by omega⟩
   obtain ⟨b, o, rfl, hb, hcell⟩ := hc (by omega)
   have hck := hcell k (by omega)
   clear hcell hc h0
   go_wp2
   ·go_round
    case rel =>
     have hz : l[k]?.getD 0 = 0 := by have h : ((l[k]?.getD 0 : Nat) : Int) == 0 := by assumption
                                      simpa using h
     exact ⟨k, by omega, rfl, (take_pred (by have := HL.out; omega) hz).symm.trans hv.out⟩
    case measure => simp [lenOf]
   ·have hz : l[k]?.getD 0 ≠ 0 := by
     have h : (((l[k]?.getD 0 : Nat) : Int) == 0) = false := by assumption
     simpa using h
    have hd := take_done hws (k := k) (by have := HL.out; omega) hz
    go_ret
    refine ⟨?_, rfl⟩
    rw [← hv.out, hd, List.length_take, Nat.min_eq_left (by have := HL.out; omega)]
    rfl

theorem or_shift (a b : Nat) (ha : a < 4294967296) (hb : b < 4294967296) : a ||| (b * 4294967296) = a + 4294967296 * b := by
 rw [Nat.or_comm, nat_join 32 _ _ (by omega) (by omega)]; omega

set_option maxHeartbeats 400000 in
theorem low_any (A : Option Addr) (n c : Nat) (l : List Nat) (w : World) (h : Wat w A n l) (hn : n ≤ 2) :
  Calls Tryz.prog 143 #[.slice A n c] w fun e w' => e = .returned (.int .u64 (val l : Nat)) ∧ ∃ k, w' = w.drewN k := by
 obtain ⟨hl, hws, hc⟩ := h
 match l, hl with
 | [], hl =>
  obtain rfl : 0 = n := hl
  go_enter Tryz.func143, Tryz.ntmps143
  go_wp2
  go_ret
  exact ⟨rfl, 0, rfl⟩
 | [x], hl =>
  obtain rfl : 1 = n := hl
  obtain ⟨b, o, rfl, hb, hcell⟩ := hc (by omega)
  have hc0 : w.cell? ⟨b, o, none⟩ = some (.int .u32 (x : Int)) := hcell 0 (by omega)
  have hx := hws.head
  clear hcell hc hws hl
  go_enter Tryz.func143, Tryz.ntmps143
  go_wp2
  go_ret
  exact ⟨ret_int (by simp [val]), 0, rfl⟩
 | [x, y], hl =>
  obtain rfl : 2 = n := hl
  obtain ⟨b, o, rfl, hb, hcell⟩ := hc (by omega)
  have hc0 : w.cell? ⟨b, o, none⟩ = some (.int .u32 (x : Int)) := hcell 0 (by omega)
  have hc1 : w.cell? ⟨b, o + 1, none⟩ = some (.int .u32 (y : Int)) := hcell 1 (by omega)
  have hx := hws.head
  have hy := hws.tail.head
  clear hcell hc hws hl
  go_enter Tryz.func143, Tryz.ntmps143
  go_wp2
  go_quiet (fail)
  go_wp2
  go_ret
  refine ⟨ret_int ?_, nq, rfl⟩
  rw [show ((y : Int) * 4294967296) = ((y * 4294967296 : Nat) : Int) by omega, u64_or_nat _ _ (by omega) (by omega), or_shift _ _ hx hy]
  simp [val]
 | _ :: _ :: _ :: _, hl => simp at hl; omega

theorem wat_one (w : World) (x : Nat) (hx : x < 4294967296) (t : TypeId) (b : Nat) (hb : w.heap[b]? = some (.cells #[.int .u32 (x : Int)] t (0, 0))) (base : Nat) (h : base ≤ b) :
  Wat w (some ⟨b, 0, none⟩) 1 [x] ∧ Fresh base w (some ⟨b, 0, none⟩) 1 := by
 have hlt : b < w.heap.size := by
  rcases Nat.lt_or_ge b w.heap.size with hlt | hge
  ·exact hlt
  ·rw [Array.getElem?_eq_none hge] at hb; cases hb
 refine ⟨⟨rfl, Ws.cons hx Ws.nil, fun _ => ⟨b, 0, rfl, hlt, fun j hj => ?_⟩⟩, fun _ => ⟨b, 0, rfl, h, fun j hj => ?_⟩⟩
 ·obtain rfl : j = 0 := by omega
  simp [World.cell?, hb]
 ·simp [World.frozen?, hb]

theorem wat_two (w : World) (x y : Nat) (hx : x < 4294967296) (hy : y < 4294967296) (t : TypeId) (b : Nat) (hb : w.heap[b]? = some (.cells #[.int .u32 (x : Int), .int .u32 (y : Int)] t (0, 0))) (base : Nat) (h : base ≤ b) :
  Wat w (some ⟨b, 0, none⟩) 2 [x, y] ∧ Fresh base w (some ⟨b, 0, none⟩) 2 := by
 have hlt : b < w.heap.size := by
  rcases Nat.lt_or_ge b w.heap.size with hlt | hge
  ·exact hlt
  ·rw [Array.getElem?_eq_none hge] at hb; cases hb
 refine ⟨⟨rfl, Ws.cons hx (Ws.cons hy Ws.nil), fun _ => ⟨b, 0, rfl, hlt, fun j hj => ?_⟩⟩, fun _ => ⟨b, 0, rfl, h, fun j hj => ?_⟩⟩
 ·rcases (by omega : j = 0 ∨ j = 1) with rfl | rfl <;> simp [World.cell?, hb]
 ·simp [World.frozen?, hb]

set_option maxHeartbeats 400000 in
theorem small_any (neg : Bool) (n : Nat) (w : World) (hn : n < 18446744073709551616) :
  Calls Tryz.prog 135 #[.bool neg, .int .u64 (n : Int)] w (RetZ w (sg neg n)) := by
 by_cases h0 : n = 0
 ·subst h0
  go_enter Tryz.func135, Tryz.ntmps135
  go_wp2
  refine bodyPost_ret (v := .agg #[.bool false, .slice none 0 0]) (by simp [results, Tryz.results135, go_sem]) rfl ⟨none, 0, 0, ?_, Nat.le_refl _, ?_, Fresh.nil, (Below.refl _ _).alloc (Nat.le_refl _) _⟩
  ·rw [sg_zero]; rfl
  ·rw [sg_zero]; simp [digs_zero, Wat.nil]
 ·have e1 := sg_neg (neg := neg) h0
  have e2 := sg_natAbs neg n
  have E1 := Lib.hid e1
  have E2 := Lib.hid e2
  clear e1 e2
  by_cases h1 : n < 4294967296
  ·have hne : ((n : Int) == 0) = false := by simpa using h0
   have hsh : ((n : Int) / 4294967296 == 0) = true := by simp; omega
   go_enter Tryz.func135, Tryz.ntmps135
   go_wp2
   have hw2 := wat_one ((w.alloc (Obj.cells #[Value.bool neg, Value.slice (some { block := w.heap.size + 1, off := 0 }) 1 1] 40)).alloc (Obj.cells #[Value.int IntKind.u32 (n : Int)] 59)) n h1 59 (w.heap.size + 1) (heap_new2 _ _ _) w.heap.size (by omega)
   refine bodyPost_ret (v := .agg #[.bool neg, .slice (some ⟨w.heap.size + 1, 0, none⟩) 1 1]) (by simp [results, Tryz.results135, go_sem]) rfl ⟨_, 1, 1, by rw [E1.out], Nat.le_refl _, ?_, hw2.2, ((Below.refl _ _).alloc (Nat.le_refl _) _).alloc (by simp) _⟩
   rw [E2.out, digs_small h0 h1]; exact hw2.1
  ·have hne : ((n : Int) == 0) = false := by simpa using h0
   have hsh : ((n : Int) / 4294967296 == 0) = false := by simp; omega
   go_enter Tryz.func135, Tryz.ntmps135
   go_wp2
   have hw2 := wat_two ((w.alloc (Obj.cells #[Value.bool neg, Value.slice (some { block := w.heap.size + 1, off := 0 }) 2 2] 40)).alloc (Obj.cells #[Value.int IntKind.u32 ((n : Int) % 4294967296), Value.int IntKind.u32 ((n : Int) / 4294967296)] 59)) (n % 4294967296) (n / 4294967296) (by omega) (by omega) 59 (w.heap.size + 1) (heap_new2 _ _ _) w.heap.size (by omega)
   refine bodyPost_ret (v := .agg #[.bool neg, .slice (some ⟨w.heap.size + 1, 0, none⟩) 2 2]) (by simp [results, Tryz.results135, go_sem]) rfl ⟨_, 2, 2, by rw [E1.out], Nat.le_refl _, ?_, hw2.2, ((Below.refl _ _).alloc (Nat.le_refl _) _).alloc (by simp) _⟩
   rw [E2.out, digs_two (by omega) hn]; exact hw2.1

/-- 'build' takes the memory over: the result lies where the words lie. -/
def RetIn (w : World) (A : Option Addr) (c : Nat) (z : Int) (e : Ending) (w' : World) : Prop :=
 ∃ A' c', e = .returned (.agg #[.bool (decide (z < 0)), .slice A' (digs z.natAbs).length c']) ∧ (z ≠ 0 → A' = A ∧ c' = c) ∧ (z = 0 → A' = none ∧ c' = 0) ∧ Below w.heap.size w w'

set_option maxHeartbeats 400000 in
theorem build_any (neg : Bool) (A : Option Addr) (n c : Nat) (l : List Nat) (w : World) (h : Wat w A n l) (hnc : n ≤ c) (hm : n ≤ 9223372036854775807) :
  Calls Tryz.prog 144 #[.bool neg, .slice A n c] w (RetIn w A c (sg neg (val l))) := by
 by_cases h0 : val l = 0
 ·have H0 := Lib.hid h0
  clear h0
  go_enter Tryz.func144, Tryz.ntmps144
  go_wp2_with fail
  refine (trim_any A n c l _ (h.alloc _) hnc hm).mono ?_
  rw [H0.out, digs_zero]
  rintro e w' ⟨rfl, rfl⟩
  go_wp2
  refine bodyPost_ret (v := .agg #[.bool false, .slice none 0 0]) (by simp [results, Tryz.results144, go_sem]) rfl ⟨none, 0, ?_, fun hh => absurd (by rw [H0.out, sg_zero]) hh, fun _ => ⟨rfl, rfl⟩, (Below.refl _ _).alloc (Nat.le_refl _) _⟩
  rw [H0.out, sg_zero]; simp [digs_zero]
 ·have e1 := sg_neg (neg := neg) h0
  have e2 := sg_natAbs neg (val l)
  have E1 := Lib.hid e1
  have E2 := Lib.hid e2
  have hlen : (digs (val l)).length ≠ 0 := fun hh => h0 (digs_nil (List.eq_nil_of_length_eq_zero hh))
  have hle : (digs (val l)).length ≤ n := by
   have := digs_len_le.2 (val_lt h.2.1); rw [h.1] at this; exact this
  clear e1 e2
  generalize hk : (digs (val l)).length = k at *
  have HK := Lib.hid hk
  clear hk
  have hk0 : ((k : Int) == 0) = false := by simpa using hlen
  go_enter Tryz.func144, Tryz.ntmps144
  go_wp2_with fail
  refine (trim_any A n c l _ (h.alloc _) hnc hm).mono ?_
  rw [HK.out]
  rintro e w' ⟨rfl, rfl⟩
  go_wp2
  refine bodyPost_ret (v := .agg #[.bool neg, .slice A k c]) (by simp [results, Tryz.results144, go_sem]) rfl ⟨A, c, ?_, fun _ => ⟨rfl, rfl⟩, fun hh => ?_, (Below.refl _ _).alloc (Nat.le_refl _) _⟩
  ·rw [E1.out, E2.out, HK.out]
  ·have := congrArg Int.natAbs hh
   rw [E2.out] at this
   exact absurd this h0

end Go.Proofs.YtjajigkacccdgaaGreat

namespace Go.Proofs.YtjajigkacccdgaaGreat
set_option linter.unusedVariables false
set_option linter.unusedSimpArgs false
open Go.RowKit
open Wd

/-- The sign of a difference, as Go's comparisons return it. -/
def cmpI (a b : Int) : Int := if a < b then -1 else if b < a then 1 else 0
theorem cmpI_lt {a b : Int} (h : a < b) : cmpI a b = -1 := by unfold cmpI; rw [if_pos h]
theorem cmpI_gt {a b : Int} (h : b < a) : cmpI a b = 1 := by unfold cmpI; rw [if_neg (by omega), if_pos h]
theorem cmpI_eq {a b : Int} (h : a = b) : cmpI a b = 0 := by unfold cmpI; rw [if_neg (by omega), if_neg (by omega)]

theorem len_lt_of {a b : Nat} (h : (digs a).length < (digs b).length) : a < b := by
 have h1 := digs_len_lt.1 (Nat.lt_of_lt_of_le (Nat.lt_succ_self _) h : (digs b).length > (digs a).length)
 have h2 := digs_len_le.1 (Nat.le_refl (digs a).length)
 omega

set_option maxHeartbeats 1000000 in
theorem compareWords_any (A A' : Option Addr) (n n' c c' : Nat) (x y : Nat) (w : World) (h : Wat w A n (digs x)) (h' : Wat w A' n' (digs y)) (hm : n ≤ 9223372036854775807) (hm' : n' ≤ 9223372036854775807) :
  Calls Tryz.prog 142 #[.slice A n c, .slice A' n' c'] w fun e w' => e = .returned (.int .i64 (cmpI x y)) ∧ ∃ k, w' = w.drewN k := by
 obtain ⟨hl, hws, hc⟩ := h
 obtain ⟨hl', hws', hc'⟩ := h'
 by_cases hlt : n < n'
 ·have hv := len_lt_of (a := x) (b := y) (by omega)
  have e : cmpI x y = -1 := cmpI_lt (by omega)
  have hne : ((n : Int) != (n' : Int)) = true := by simp; omega
  clear hl hl' hc hc'
  rw [e]
  go_enter Tryz.func142, Tryz.ntmps142
  go_wp2
  go_ret
  exact ⟨rfl, 0, rfl⟩
 ·by_cases hgt : n' < n
  ·have hv := len_lt_of (a := y) (b := x) (by omega)
   have e : cmpI x y = 1 := cmpI_gt (by omega)
   have hne : ((n : Int) != (n' : Int)) = true := by simp; omega
   clear hl hl' hc hc'
   rw [e]
   go_enter Tryz.func142, Tryz.ntmps142
   go_wp2
   go_ret
   exact ⟨rfl, 0, rfl⟩
  ·obtain rfl : n' = n := by omega
   have HL := Lib.hid hl
   have HL' := Lib.hid hl'
   have hne : ((n' : Int) != (n' : Int)) = false := by simp
   clear hlt hgt hl hl'
   go_enter Tryz.func142, Tryz.ntmps142
   go_wp2
   go_loopw [5] (fun i wr => ∃ (k q : Nat), k ≤ n' ∧ i = .int .i64 ((k : Int) - 1) ∧ wr = w.drewN q ∧ Hid (∀ j, k ≤ j → (digs x)[j]?.getD 0 = (digs y)[j]?.getD 0)) (fun i _ => (intOf i + 1).toNat)
   case atStart =>
    refine ⟨n', 0, Nat.le_refl _, rfl, rfl, fun j hj => ?_⟩
    rw [List.getElem?_eq_none (by have := HL.out; omega), List.getElem?_eq_none (by have := HL'.out; omega)]
   case round =>
    obtain ⟨k, q, hk, rfl, rfl, hu⟩ := hrel
    by_cases h0 : k = 0
    ·subst h0
     have e : cmpI x y = 0 := by
      have hxy : digs x = digs y := by
       apply List.ext_getElem (HL.out.trans HL'.out.symm)
       intro j h1 h2
       have := hu.out j (Nat.zero_le _)
       rw [List.getElem?_eq_getElem h1, List.getElem?_eq_getElem h2] at this
       simpa using this
      have := congrArg val hxy
      rw [val_digs, val_digs] at this
      exact cmpI_eq (by omega)
     have E := Lib.hid e
     clear e
     go_wp2
     go_ret
     rw [E.out]
     exact ⟨rfl, _, rfl⟩
    ·obtain ⟨k, rfl⟩ : ∃ j, k = j + 1 := ⟨k - 1, by omega⟩
     obtain ⟨b, o, rfl, hb, hcell⟩ := hc (by omega)
     obtain ⟨b', o', rfl, hb', hcell'⟩ := hc' (by omega)
     have hck := hcell k (by omega)
     have hck' := hcell' k (by omega)
     clear hcell hcell' hc hc' h0
     rw [show ((k + 1 : Nat) : Int) - 1 = (k : Int) by omega]
     generalize hp : (digs x)[k]?.getD 0 = p at *
     generalize hq : (digs y)[k]?.getD 0 = p' at *
     have HP := Lib.hid hp
     have HQ := Lib.hid hq
     have kx : k < (digs x).length := by have := HL.out; omega
     have ky : k < (digs y).length := by have := HL'.out; omega
     have px : (digs x)[k] = p := by rw [List.getElem?_eq_getElem kx] at hp; exact hp
     have py : (digs y)[k] = p' := by rw [List.getElem?_eq_getElem ky] at hq; exact hq
     have PX := Lib.hid px
     have PY := Lib.hid py
     clear hp hq px py
     have hi0 : (0 : Int) ≤ (k : Int) := by omega
     have hi1 : (k : Int) < (n' : Int) := by omega
     rcases Nat.lt_trichotomy p p' with hlt | heq | hgt
     ·have hv : x < y := by
       have := val_lt_of_top hws k kx ky (by rw [PX.out, PY.out]; exact hlt) (fun j hj => hu.out j hj) (HL.out.trans HL'.out.symm)
       rwa [val_digs, val_digs] at this
      have e : cmpI x y = -1 := cmpI_lt (by omega)
      have E := Lib.hid e
      clear e hv
      have hb1 : ((p : Int) != (p' : Int)) = true := by simp; omega
      go_wp2
      go_quiet (fail)
      go_wp2
      go_quiet (fail)
      go_wp2
      go_ret
      rw [E.out]
      exact ⟨rfl, _, by rw [World.drewN_drewN, World.drewN_drewN]⟩
     ·subst heq
      have hb1 : ((p : Int) != (p : Int)) = false := by simp
      go_wp2
      go_quiet (fail)
      go_wp2
      go_roundw
      case rel =>
       refine ⟨k, _, by omega, rfl, rfl, fun j hj => ?_⟩
       rcases Nat.eq_or_lt_of_le hj with rfl | hj
       ·rw [HP.out, HQ.out]
       ·exact hu.out j hj
      case measure => simp [intOf]
     ·have hv : y < x := by
       have := val_lt_of_top hws' k ky kx (by rw [PX.out, PY.out]; exact hgt) (fun j hj => (hu.out j hj).symm) (HL'.out.trans HL.out.symm)
       rwa [val_digs, val_digs] at this
      have e : cmpI x y = 1 := cmpI_gt (by omega)
      have E := Lib.hid e
      clear e hv
      have hb1 : ((p : Int) != (p' : Int)) = true := by simp; omega
      go_wp2
      go_quiet (fail)
      go_wp2
      go_quiet (fail)
      go_wp2
      go_ret
      rw [E.out]
      exact ⟨rfl, _, by rw [World.drewN_drewN, World.drewN_drewN]⟩

end Go.Proofs.YtjajigkacccdgaaGreat
