/-
Plain facts on the schoolbook product of two lists of words. No program occurs here; no conditions. Contract of mulWords of package whole: the words of the product. Contract of Mul of package whole. No statement of the seat is proved here; no conditions beyond those of each theorem.
-/
import Derived.Test.YtjajigkacccdgaaGreatTbAA
import Derived.Test.YtjajigkacccdgaaGreatTbAC
import Derived.Laws.MakeOwn
namespace Go.Proofs.YtjajigkacccdgaaGreat
set_option linter.unusedVariables false
set_option linter.unusedSimpArgs false
namespace Wd

theorem val_set {p : List Nat} {j : Nat} (d : Nat) (hj : j < p.length) : val (p.set j d) + 4294967296 ^ j * p[j]?.getD 0 = val p + 4294967296 ^ j * d := by
 induction p generalizing j with
 | nil => simp at hj
 | cons e p ih =>
  cases j with
  | zero => simp [val]; omega
  | succ j =>
   have h := ih (j := j) (by simpa using hj)
   simp only [List.set_cons_succ, val_cons, List.getElem?_cons_succ, Nat.pow_succ]
   grind
theorem Ws.set {p : List Nat} (h : Ws p) (j : Nat) {d : Nat} (hd : d < 4294967296) : Ws (p.set j d) := by
 intro x hx
 rcases List.mem_or_eq_of_mem_set hx with h1 | h1
 ·exact h x h1
 ·subst h1; exact hd
theorem get_set_other {p : List Nat} {i j : Nat} (d : Nat) (h : i ≠ j) : (p.set i d)[j]?.getD 0 = p[j]?.getD 0 := by
 rw [List.getElem?_set_ne h]

/-- Where the product stands after k words of b have been multiplied by x and added from word i on. -/
structure MInv (p0 : List Nat) (x : Nat) (b : List Nat) (i k : Nat) (p : List Nat) (c : Nat) : Prop where
 len : p.length = p0.length
 ws : Ws p
 cl : c < 4294967296
 eq : val p + c * 4294967296 ^ (i + k) = val p0 + x * val (b.take k) * 4294967296 ^ i
 rest : ∀ j, i + k ≤ j → p[j]?.getD 0 = p0[j]?.getD 0

theorem MInv.start {p0 : List Nat} (x : Nat) (b : List Nat) (i : Nat) (h : Ws p0) : MInv p0 x b i 0 p0 0 :=
 ⟨rfl, h, by decide, by simp [val], fun _ _ => rfl⟩

theorem MInv.bound {p0 b p : List Nat} {x i k c : Nat} (h : MInv p0 x b i k p c) (hx : x < 4294967296) (hb : Ws b) :
  p[i + k]?.getD 0 + x * b[k]?.getD 0 + c < 18446744073709551616 := by
 have h1 := h.ws.get (i + k)
 have h2 := hb.get k
 have h3 := h.cl
 have h4 : x * b[k]?.getD 0 ≤ 4294967295 * 4294967295 := Nat.mul_le_mul (by omega) (by omega)
 omega

theorem MInv.step {p0 b p : List Nat} {x i k c : Nat} (h : MInv p0 x b i k p c) (hx : x < 4294967296) (hb : Ws b) (hk : k < b.length) (hl : i + k < p0.length) :
  MInv p0 x b i (k + 1) (p.set (i + k) ((p[i + k]?.getD 0 + x * b[k]?.getD 0 + c) % 4294967296)) ((p[i + k]?.getD 0 + x * b[k]?.getD 0 + c) / 4294967296) := by
 have hbd := h.bound hx hb
 have hset := val_set (p := p) (j := i + k) ((p[i + k]?.getD 0 + x * b[k]?.getD 0 + c) % 4294967296) (by rw [h.len]; exact hl)
 have he := h.eq
 refine ⟨by rw [List.length_set]; exact h.len, h.ws.set _ (Nat.mod_lt _ (by decide)), ?_, ?_, ?_⟩
 ·omega
 ·have ht : b.take (k + 1) = b.take k ++ [b[k]?.getD 0] := by
   rw [List.take_succ_eq_append_getElem hk, List.getElem?_eq_getElem hk]; rfl
  rw [ht, val_snoc, List.length_take, Nat.min_eq_left (by omega)]
  rw [show i + (k + 1) = (i + k) + 1 by omega, Nat.pow_succ]
  rw [show 4294967296 ^ (i + k) = 4294967296 ^ i * 4294967296 ^ k from Nat.pow_add ..] at *
  generalize p[i + k]?.getD 0 = q at *
  generalize b[k]?.getD 0 = y at *
  generalize hT : q + x * y + c = T at *
  have hdm := Nat.div_add_mod T 4294967296
  generalize T / 4294967296 = D at *
  generalize T % 4294967296 = R at *
  generalize val (p.set (i + k) R) = V at *
  generalize val p = U at *
  generalize val p0 = U0 at *
  generalize val (b.take k) = Y at *
  generalize 4294967296 ^ i = M at *
  generalize 4294967296 ^ k = N at *
  subst hT
  have e1 : M * N * (4294967296 * D + R) = M * N * (q + x * y + c) := by rw [hdm]
  grind
 ·intro j hj
  rw [get_set_other _ (by omega)]
  exact h.rest j (by omega)

/-- After all words of b the carry goes into the next word. -/
theorem MInv.last {p0 b p : List Nat} {x i c : Nat} (h : MInv p0 x b i b.length p c) (hl : i + b.length < p0.length) (hz : p0[i + b.length]?.getD 0 = 0) :
  Ws (p.set (i + b.length) c) ∧ (p.set (i + b.length) c).length = p0.length ∧ val (p.set (i + b.length) c) = val p0 + x * val b * 4294967296 ^ i ∧ ∀ j, i + 1 + b.length ≤ j → (p.set (i + b.length) c)[j]?.getD 0 = p0[j]?.getD 0 := by
 have hset := val_set (p := p) (j := i + b.length) c (by rw [h.len]; exact hl)
 have h0 : p[i + b.length]?.getD 0 = 0 := by rw [h.rest _ (Nat.le_refl _), hz]
 have he := h.eq
 rw [List.take_length] at he
 rw [h0] at hset
 refine ⟨h.ws.set _ h.cl, by rw [List.length_set]; exact h.len, ?_, fun j hj => ?_⟩
 ·grind
 ·rw [get_set_other _ (by omega)]
  exact h.rest j (by omega)

/-- Where the product stands after i words of a. -/
structure OInv (a b : List Nat) (i : Nat) (p : List Nat) : Prop where
 len : p.length = a.length + b.length
 ws : Ws p
 eq : val p = val (a.take i) * val b
 rest : ∀ j, i + b.length ≤ j → p[j]?.getD 0 = 0

theorem OInv.start (a b : List Nat) : OInv a b 0 (List.replicate (a.length + b.length) 0) :=
 ⟨by simp, fun d hd => by rw [List.eq_of_mem_replicate hd]; decide, by rw [val_replicate_zero]; simp [val], fun j _ => by
  rw [List.getElem?_replicate]; split <;> rfl⟩

theorem OInv.step {a b p0 p : List Nat} {i c : Nat} (h : OInv a b i p0) (hi : i < a.length) (hm : MInv p0 (a[i]?.getD 0) b i b.length p c) : OInv a b (i + 1) (p.set (i + b.length) c) := by
 obtain ⟨h1, h2, h3, h4⟩ := hm.last (by rw [h.len]; omega) (h.rest _ (Nat.le_refl _))
 refine ⟨h2.trans h.len, h1, ?_, fun j hj => ?_⟩
 ·rw [h3, h.eq]
  have ht : a.take (i + 1) = a.take i ++ [a[i]?.getD 0] := by
   rw [List.take_succ_eq_append_getElem hi, List.getElem?_eq_getElem hi]; rfl
  rw [ht, val_snoc, List.length_take, Nat.min_eq_left (by omega)]
  grind
 ·rw [h4 j hj]; exact h.rest j (by omega)

theorem OInv.done {a b p : List Nat} (h : OInv a b a.length p) : val p = val a * val b := by
 rw [h.eq, List.take_length]

end Wd
end Go.Proofs.YtjajigkacccdgaaGreat

namespace Go.Proofs.YtjajigkacccdgaaGreat
set_option linter.unusedVariables false
set_option linter.unusedSimpArgs false
open Go.RowKit
open Wd

theorem made_one (z : Value) (n : Nat) : madeCells #[z] n = Array.replicate n z := by
 apply Array.ext
 ·simp [madeCells]
 ·intro i h1 h2
  simp [madeCells]
  have : i % 1 = 0 := by omega
  simp [this]

/-- The cells of a list of words. -/
def wcells (p : List Nat) : Array Value := (u32s p).toArray
theorem wcells_zero (n : Nat) : madeCells #[.int .u32 0] n = wcells (List.replicate n 0) := by
 rw [made_one]; unfold wcells u32s; simp

theorem run_make_u32 (k : Nat) (hk : k ≤ 1000000000000) (w : World) :
  (Instr.makeSlice 38 (.int .i64 (k : Int)) (.int .i64 (k : Int))).run Tryz.prog w = .ok (.slice (some ⟨w.heap.size, 0, none⟩) k k) (w.alloc (.cells (wcells (List.replicate k 0)) 59)) := by
 obtain ⟨i0, hi, hz0, hz1, hz2⟩ := info_parts info_u32
 have h := run_make (P := Tryz.prog) w 38 59 i0 (.int .u32 0) Tryz.underlying38 hi hz0 .i64 .i64 k k (by omega) (Int.le_refl _) (by rw [hz2]; omega) (by omega)
 rw [h, hz1]
 simp only [Int.toNat_natCast, Nat.mul_one, Value.cells]
 rw [wcells_zero]

theorem Blk.word {w : World} {g : Nat} {t : TypeId} {p : List Nat} (h : Blk w g t (wcells p)) {j : Nat} (hj : j < p.length) : w.cell? ⟨g, j, none⟩ = some (.int .u32 ((p[j]?.getD 0 : Nat) : Int)) := by
 rw [h.cell j]
 unfold wcells
 rw [List.getElem?_toArray, u32s_get, List.getElem?_eq_getElem hj]
 rfl
theorem Blk.setWord {w : World} {g : Nat} {t : TypeId} {p : List Nat} (h : Blk w g t (wcells p)) (j d : Nat) : Blk (w.setCell ⟨g, j, none⟩ (.int .u32 (d : Int))) g t (wcells (p.set j d)) := by
 have := h.set j (.int .u32 (d : Int))
 have e : (wcells p).setIfInBounds j (.int .u32 (d : Int)) = wcells (p.set j d) := by
  unfold wcells u32s
  rw [List.setIfInBounds_toArray, ← List.map_set]
 rwa [e] at this
/-- A block of words reads as words. -/
theorem Blk.wat {w : World} {g base : Nat} {p : List Nat} {t : TypeId} (h : Blk w g t (wcells p)) (hp : Ws p) (hb : base ≤ g) : Wat w (some ⟨g, 0, none⟩) p.length p ∧ Fresh base w (some ⟨g, 0, none⟩) p.length :=
 ⟨⟨rfl, hp, fun _ => ⟨g, 0, rfl, h.lt, fun j hj => by rw [Nat.zero_add]; exact h.word hj⟩⟩, fun _ => ⟨g, 0, rfl, hb, fun j _ => by rw [Nat.zero_add]; exact h.frozen j⟩⟩

def MulO (w : World) (g : Nat) (a b : List Nat) (i : Nat) (p : List Nat) (wr : World) : Prop :=
 OInv a b i p ∧ Blk wr g 59 (wcells p) ∧ Below w.heap.size w wr
def MulI (w : World) (g h : Nat) (p0 : List Nat) (x : Nat) (b : List Nat) (i k : Nat) (p : List Nat) (c : Nat) (wr : World) : Prop :=
 MInv p0 x b i k p c ∧ Blk wr g 59 (wcells p) ∧ Blk wr h 164 #[.int .u64 (c : Int)] ∧ Below w.heap.size w wr

set_option maxHeartbeats 2000000 in
theorem mulWords_any (A A' : Option Addr) (n n' c c' : Nat) (l l' : List Nat) (w : World) (h : Wat w A n l) (h' : Wat w A' n' l') (hm : n ≤ 100000000000) (hm' : n' ≤ 100000000000) :
  Calls Tryz.prog 145 #[.slice A n c, .slice A' n' c'] w fun e w' => ∃ p, RetW w (n + n') p e w' ∧ val p = val l * val l' := by
 have hmk := fun w => run_make_u32 (n + n') (by omega) w
 rw [show ((n + n' : Nat) : Int) = (n : Int) + (n' : Int) by omega] at hmk
 have hl := h.1
 have hl' := h'.1
 have HL := Lib.hid hl
 have HL' := Lib.hid hl'
 clear hl hl'
 go_enter Tryz.func145, Tryz.ntmps145
 go_wp2_with fail
 have hstart : MulO w w.heap.size l l' 0 (List.replicate (n + n') 0) (w.alloc (.cells (wcells (List.replicate (n + n') 0)) 59)) :=
  ⟨by have := OInv.start l l'; rw [HL.out, HL'.out] at this; exact this, Blk.new _ _ _, (Below.refl _ _).alloc (Nat.le_refl _) _⟩
 generalize w.alloc (.cells (wcells (List.replicate (n + n') 0)) 59) = W0 at *
 generalize List.replicate (n + n') 0 = p0 at *
 go_loopw [19] (fun t wr => ∃ (i : Nat) (p : List Nat), i ≤ n ∧ t = .int .i64 i ∧ MulO w w.heap.size l l' i p wr) (fun t _ => n - (intOf t).toNat)
 case atStart => exact ⟨0, p0, Nat.zero_le _, rfl, hstart⟩
 case round =>
  obtain ⟨i, p, hi, rfl, hO, hP, hB⟩ := hrel
  clear hmk hstart
  by_cases hlt : i < n
  ·have hW := h.below hB
   obtain ⟨b, o, rfl, hb, hcell⟩ := hW.2.2 (by omega)
   have hck := hcell i hlt
   have hx := h.2.1.get i
   clear hcell hW
   generalize hxe : l[i]?.getD 0 = x at *
   have HX := Lib.hid hxe
   clear hxe
   go_wp2_with fail
   refine (carrier_any 0 wr).mono ?_
   rintro e w1 ⟨rfl, rfl⟩
   go_wp2_with fail
   have hst : MulI w w.heap.size wr.heap.size p x l' i 0 p 0 (wr.alloc (.cells #[.int .u64 0] 164)) :=
    ⟨MInv.start x l' i hO.ws, hP.alloc _, Blk.new _ _ _, hB.alloc hB.size _⟩
   have hne : w.heap.size < wr.heap.size := hP.lt
   have hO' := Lib.hid hO
   clear hO hP hB hck
   generalize wr.alloc (.cells #[.int .u64 0] 164) = W1 at *
   generalize hge : wr.heap.size = g at *
   clear hge
   go_loopw [27] (fun t wr => ∃ (k : Nat) (q : List Nat) (cc : Nat), k ≤ n' ∧ t = .int .i64 k ∧ MulI w w.heap.size g p x l' i k q cc wr) (fun t _ => n' - (intOf t).toNat)
   case atStart => exact ⟨0, p, 0, Nat.zero_le _, rfl, hst⟩
   case round =>
    obtain ⟨k, q, cc, hk, rfl, hI, hP, hG, hB⟩ := hrel
    clear hst
    by_cases hlt2 : k < n'
    ·have hW := h'.below hB
     obtain ⟨b', o', rfl, hb', hcell⟩ := hW.2.2 (by omega)
     have hck := hcell k hlt2
     have hy := h'.2.1.get k
     have hjl : i + k < q.length := by rw [hI.len, hO'.out.len, HL.out, HL'.out]; omega
     have hpc := hP.word hjl
     have hpl := hI.ws.get (i + k)
     have hcl := hI.cl
     have hbd := hI.bound hx h'.2.1
     have hst := hI.step hx h'.2.1 (k := k) (by rw [HL'.out]; exact hlt2) (by rw [← hI.len]; exact hjl)
     generalize q[i + k]?.getD 0 = v at *
     generalize l'[k]?.getD 0 = y at *
     have hxy : (x : Int) * (y : Int) = ((x * y : Nat) : Int) := by omega
     have hmu : (x : Int) * (y : Int) ≤ 18446744065119617025 := by
      have : x * y ≤ 4294967295 * 4294967295 := Nat.mul_le_mul (by omega) (by omega)
      omega
     have hm0 : (0 : Int) ≤ (x : Int) * (y : Int) := by omega
     have HBD := Lib.hid hbd
     have HXY := Lib.hid hxy
     have HST := Lib.hid hst
     have HMU := Lib.hid hmu
     have hw1 : IntKind.u64.wrap ((x : Int) * (y : Int)) = (x : Int) * (y : Int) := by rw [IntKind.wrap_u64]; omega
     have hw2 : IntKind.u64.wrap ((v : Int) + (x : Int) * (y : Int)) = (v : Int) + (x : Int) * (y : Int) := by rw [IntKind.wrap_u64]; omega
     clear hcell hW hst hbd hxy hmu
     go_wp2_with fail
     have e1 : ((v : Int) + (x : Int) * (y : Int) + (cc : Int)) % 4294967296 = (((v + x * y + cc) % 4294967296 : Nat) : Int) := by rw [HXY.out]; omega
     have e2 : ((v : Int) + (x : Int) * (y : Int) + (cc : Int)) / 4294967296 = (((v + x * y + cc) / 4294967296 : Nat) : Int) := by rw [HXY.out]; omega
     refine (next_any g _ cc wr hG (by have := HXY.out; omega) (by omega) (by have := HXY.out; have := HBD.out; omega)).mono ?_
     rw [e1, e2]
     generalize (v + x * y + cc) % 4294967296 = r at *
     generalize (v + x * y + cc) / 4294967296 = d at *
     rintro e w1 ⟨rfl, rfl⟩
     have hP1 := hP.far (p := ⟨g, 0, none⟩) (by simp; omega) (.int .u64 (d : Int))
     have hG1 := hG.set 0 (.int .u64 (d : Int))
     have hB1 := hB.setCell (p := ⟨g, 0, none⟩) (by simp; omega) (.int .u64 (d : Int))
     have hP2 := hP1.setWord (i + k) r
     have hG2 := hG1.far (p := ⟨w.heap.size, i + k, none⟩) (by simp; omega) (.int .u32 (r : Int))
     have hB2 := hB1.setCell (p := ⟨w.heap.size, i + k, none⟩) (by simp) (.int .u32 (r : Int))
     have hc1 := hP1.word hjl
     have hf1 := hP1.frozen (i + k)
     have hil : i + k < n + n' := by omega
     clear e1 e2 hP hG hB hP1 hG1 hB1 hI hck hpc hw1 hw2 HMU HXY hm0
     generalize wr.setCell ⟨g, 0, none⟩ (.int .u64 (d : Int)) = w2 at *
     go_wp2
     go_roundw
     case rel => exact ⟨k + 1, _, d, by omega, by go_num, HST.out, hP2, hG2, hB2⟩
     case measure => simp [intOf]; omega
    ·obtain rfl : k = n' := by omega
     have hjl : i + k < q.length := by rw [hI.len, hO'.out.len, HL.out, HL'.out]; omega
     have hcl := hI.cl
     rw [← HL'.out] at hI
     rw [← HX.out] at hI
     have hst := hO'.out.step (i := i) (by rw [HL.out]; exact hlt) hI
     rw [HL'.out] at hst
     have HST := Lib.hid hst
     have hpc := hP.word hjl
     clear hI hst
     go_wp2_with fail
     refine (next_any g 0 cc wr hG (by omega) (by omega) (by omega)).mono ?_
     rw [show ((0 : Int) + (cc : Int)) % 4294967296 = ((cc : Nat) : Int) by omega]
     generalize ((0 : Int) + (cc : Int)) / 4294967296 = d at *
     rintro e w1 ⟨rfl, rfl⟩
     have hP1 := hP.far (p := ⟨g, 0, none⟩) (by simp; omega) (.int .u64 d)
     have hB1 := hB.setCell (p := ⟨g, 0, none⟩) (by simp; omega) (.int .u64 d)
     have hP2 := hP1.setWord (i + k) cc
     have hB2 := hB1.setCell (p := ⟨w.heap.size, i + k, none⟩) (by simp) (.int .u32 (cc : Int))
     have hc1 := hP1.word hjl
     have hf1 := hP1.frozen (i + k)
     have hil : i + k < n + k := by omega
     clear hP hG hB hP1 hB1 hpc
     generalize wr.setCell ⟨g, 0, none⟩ (.int .u64 d) = w2 at *
     go_wp2
     go_roundw
     case rel => exact ⟨i + 1, _, by omega, by go_num, HST.out, hP2, hB2⟩
     case measure => simp [intOf]; omega
  ·obtain rfl : i = n := by omega
   have hlen : p.length = i + n' := by rw [hO.len, HL.out, HL'.out]
   have hw := hP.wat hO.ws (Nat.le_refl w.heap.size)
   rw [hlen] at hw
   have HV : Hid (∃ p, RetW w (i + n') p (.returned (.slice (some ⟨w.heap.size, 0, none⟩) (i + n') (i + n'))) wr ∧ val p = val l * val l') := ⟨p, ⟨_, _, rfl, Nat.le_refl _, by simp only [maxLen]; omega, hw.1, hw.2, hB⟩, by rw [← HL.out] at hO; exact hO.done⟩
   clear hlen hw hO hP hB
   go_wp2
   go_ret
   exact HV.out

end Go.Proofs.YtjajigkacccdgaaGreat

namespace Go.Proofs.YtjajigkacccdgaaGreat
set_option linter.unusedVariables false
set_option linter.unusedSimpArgs false
open Go.RowKit
open Wd

theorem sg_mul (a b : Bool) (m n : Nat) : sg (a != b) (m * n) = sg a m * sg b n := by
 unfold sg
 cases a <;> cases b <;> simp [Int.mul_neg, Int.neg_mul]

theorem len_one {m : Nat} (h : (digs m).length ≤ 1) : m < 4294967296 := by
 have := digs_len_le.1 h; simpa using this

theorem small_int (neg : Bool) (z : Int) (w : World) (h0 : 0 ≤ z) (hn : z < 18446744073709551616) :
  Calls Tryz.prog 135 #[.bool neg, .int .u64 z] w (RetZ w (sg neg z.toNat)) := by
 obtain ⟨n, rfl⟩ := Int.eq_ofNat_of_zero_le h0
 exact small_any neg n w (by omega)

theorem low_bel (A : Option Addr) (n c : Nat) (l : List Nat) (w : World) (h : Wat w A n l) (hn : n ≤ 2) :
  Calls Tryz.prog 143 #[.slice A n c] w fun e w' => e = .returned (.int .u64 (val l : Nat)) ∧ Below w.heap.size w w' :=
 (low_any A n c l w h hn).mono fun _ _ ⟨he, k, hk⟩ => ⟨he, by rw [hk]; exact belowN _ _⟩

set_option maxHeartbeats 4000000 in
theorem mul_any (neg neg' : Bool) (A A' : Option Addr) (n n' c c' : Nat) (l l' : List Nat) (w : World) (h : Wat w A n l) (h' : Wat w A' n' l') (hnc : n ≤ c) (hnc' : n' ≤ c') (hm : n ≤ 100000000000) (hm' : n' ≤ 100000000000) :
  Calls Tryz.prog 97 #[.agg #[.bool neg, .slice A n c], .agg #[.bool neg', .slice A' n' c']] w (RetZ w (sg neg (val l) * sg neg' (val l'))) := by
 rw [← sg_mul]
 go_enter Tryz.func97, Tryz.ntmps97
 go_wp2_with fail
 obtain ⟨hB0, hB1, hB2, hBW, hsz⟩ := pre3 w 40 #[.bool neg, .slice A n c] 40 #[.bool neg', .slice A' n' c'] 40 #[.bool false, .slice none 0 0]
 generalize ((w.alloc (.cells #[.bool neg, .slice A n c] 40)).alloc (.cells #[.bool neg', .slice A' n' c'] 40)).alloc (.cells #[.bool false, .slice none 0 0] 40) = W at *
 have HSZ := Lib.hid hsz
 clear hsz
 have s4 := RS.start hB2
 have hw : ∀ w', RS (w.heap.size + 1 + 1) 40 W w' → Wat w' A n l ∧ Wat w' A' n' l' := fun w' hk => ⟨h.below (hBW.trans (hk.1.mono (by omega))), h'.below (hBW.trans (hk.1.mono (by omega)))⟩
 have HW := Lib.hid hw
 have hle := h.trim_le
 have hle' := h'.trim_le
 clear hw
 have T1 := Lib.hid (fun W1 (hb : RS (w.heap.size + 1 + 1) 40 W W1) => trim_any A n c l W1 (HW.out _ hb).1 hnc (by omega))
 have T2 := Lib.hid (fun W1 (hb : RS (w.heap.size + 1 + 1) 40 W W1) => trim_any A' n' c' l' W1 (HW.out _ hb).2 hnc' (by omega))
 obtain ⟨c0, c1, -, -⟩ := hB0.two
 obtain ⟨c2, c3, -, -⟩ := hB1.two
 go_quiet ((first | (go_at_call_of 141 (Value.slice A n c); exact quiet_left (T1.out _ (s4.drewN _))) | (go_at_call_of 141 (Value.slice A' n' c'); exact quiet_left (T2.out _ (s4.drewN _)))))
 have s5 := s4.drewN nq
 clear T1 T2 s4 c0 c1 c2 c3
 have hT := fun W1 (hb : RS (w.heap.size + 1 + 1) 40 W W1) => (HW.out _ hb).1.trim
 have hT' := fun W1 (hb : RS (w.heap.size + 1 + 1) 40 W W1) => (HW.out _ hb).2.trim
 have HT := Lib.hid hT
 have HT' := Lib.hid hT'
 have hv1 := @len_one (val l)
 have hv2 := @len_one (val l')
 clear hT hT' HW
 have hvd := val_digs (val l)
 have hvd' := val_digs (val l')
 have HVD := Lib.hid hvd
 have HVD' := Lib.hid hvd'
 clear hvd hvd'
 generalize val l = m at *
 generalize val l' = m' at *
 by_cases hb : (digs m).length ≤ 1 ∧ (digs m').length ≤ 1
 ·obtain ⟨hb1, hb2⟩ := hb
  have hv1 := hv1 hb1
  have hv2 := hv2 hb2
  generalize digs m = D at *
  generalize digs m' = D' at *
  generalize D.length = k at *
  generalize D'.length = k' at *
  have hp : m * m' < 18446744073709551616 := by
   have : m * m' ≤ 4294967295 * 4294967295 := Nat.mul_le_mul (by omega) (by omega)
   omega
  have hmm : (m : Int) * (m' : Int) = ((m * m' : Nat) : Int) := by omega
  have hw1 : IntKind.u64.wrap ((m : Int) * (m' : Int)) = (m : Int) * (m' : Int) := by
   rw [IntKind.wrap_u64, hmm]; omega
  have HMM := Lib.hid hmm
  have HP := Lib.hid hp
  clear hmm hp hv1 hv2
  go_wp2_with fail
  have hS : ∀ w', RS (w.heap.size + 1 + 1) 40 W w' → (w'.cell? ⟨w.heap.size, 0, none⟩ = some (.bool neg) ∧ w'.cell? ⟨w.heap.size, 1, none⟩ = some (.slice A n c) ∧ w'.cell? ⟨w.heap.size + 1, 0, none⟩ = some (.bool neg') ∧ w'.cell? ⟨w.heap.size + 1, 1, none⟩ = some (.slice A' n' c')) ∧ RS (w.heap.size + 1 + 1) 40 W w' := fun w' hk => ⟨⟨(hk.blk hB0 (by omega)).cell 0, (hk.blk hB0 (by omega)).cell 1, (hk.blk hB1 (by omega)).cell 0, (hk.blk hB1 (by omega)).cell 1⟩, hk⟩
  have HS := Lib.hid hS
  clear hS
  clear hB2
  go_region_held3 (fun w' => (w'.cell? ⟨w.heap.size, 0, none⟩ = some (.bool neg) ∧ w'.cell? ⟨w.heap.size, 1, none⟩ = some (.slice A n c) ∧ w'.cell? ⟨w.heap.size + 1, 0, none⟩ = some (.bool neg') ∧ w'.cell? ⟨w.heap.size + 1, 1, none⟩ = some (.slice A' n' c')) ∧ RS (w.heap.size + 1 + 1) 40 W w')
   (first | (with_reducible refine HS.out _ ?_; with_reducible assumption) | (with_reducible refine HS.out _ (RS.drew ?_); with_reducible assumption) | (with_reducible refine' HS.out _ (RS.drew (And.right ?_)); rotate_left; with_reducible assumption) | (with_reducible refine' HS.out _ (RS.set (And.right ?_) _ _); rotate_left; with_reducible assumption))
   (first
    | (go_at_call_of 143 (Value.slice A k c); have hk := And.right ‹_ ∧ RS (w.heap.size + 1 + 1) 40 W _›; refine (low_bel A _ c _ _ (HT.out _ hk) (by omega)).mono ?_; rw [HVD.out]; rintro e w1 ⟨rfl, hb1⟩; have hr1 := hk.call hb1)
    | (go_at_call_of 143 (Value.slice A' k' c'); have hk := And.right ‹_ ∧ RS (w.heap.size + 1 + 1) 40 W _›; refine (low_bel A' _ c' _ _ (HT'.out _ hk) (by omega)).mono ?_; rw [HVD'.out]; rintro e w2 ⟨rfl, hb2⟩; have hr2 := hk.call hb2)
    | (go_at_call 135; have hk := And.right ‹_ ∧ RS (w.heap.size + 1 + 1) 40 W _›; refine (small_int (neg != neg') _ _ (by rw [HMM.out]; omega) (by rw [HMM.out]; have := HP.out; omega)).mono ?_; rw [HMM.out, Int.toNat_natCast]; rintro e w3 ⟨A3, k3, c3, rfl, hk3, hW3, hF3, hb3⟩; have hz3 := hk.1.size; have hr3 := hk.call hb3; obtain ⟨_, _, c0, c1, f0, f1⟩ := hr3.two))
  have hfin := retZ_close hBW (by omega) (by have := HSZ.out; omega) hr3 hk3 hW3 hF3
  obtain ⟨d0, d1, -, -⟩ := (hr3.done (.bool (decide (sg (neg != neg') (m * m') < 0))) (.slice A3 k3 c3)).two
  have HF := Lib.hid hfin
  clear hfin
  go_wp2
  refine bodyPost_ret (v := .agg #[.bool (decide (sg (neg != neg') (m * m') < 0)), .slice A3 k3 c3]) ?_ rfl HF.out
  simp [results, Tryz.results97, go_sem, d0, d1]
 ·have hb' : ¬ ((digs m).length ≤ 1) ∨ ((digs m).length ≤ 1 ∧ ¬ ((digs m').length ≤ 1)) := by omega
  clear hb hv1 hv2
  have hmu := fun W1 (hb : RS (w.heap.size + 1 + 1) 40 W W1) => mulWords_any A A' _ _ c c' _ _ W1 (HT.out _ hb) (HT'.out _ hb) (by omega) (by omega)
  rw [HVD.out, HVD'.out] at hmu
  have HMU := Lib.hid hmu
  clear hmu
  generalize digs m = D at *
  generalize digs m' = D' at *
  generalize D.length = k at *
  generalize D'.length = k' at *
  rcases hb' with hb1 | ⟨hb1, hb2⟩
  all_goals
   go_wp2_with fail
   have hS : ∀ w', RS (w.heap.size + 1 + 1) 40 W w' → (w'.cell? ⟨w.heap.size, 0, none⟩ = some (.bool neg) ∧ w'.cell? ⟨w.heap.size, 1, none⟩ = some (.slice A n c) ∧ w'.cell? ⟨w.heap.size + 1, 0, none⟩ = some (.bool neg') ∧ w'.cell? ⟨w.heap.size + 1, 1, none⟩ = some (.slice A' n' c')) ∧ RS (w.heap.size + 1 + 1) 40 W w' := fun w' hk => ⟨⟨(hk.blk hB0 (by omega)).cell 0, (hk.blk hB0 (by omega)).cell 1, (hk.blk hB1 (by omega)).cell 0, (hk.blk hB1 (by omega)).cell 1⟩, hk⟩
   have HS := Lib.hid hS
   clear hS
   clear hB2
   go_region_held3 (fun w' => (w'.cell? ⟨w.heap.size, 0, none⟩ = some (.bool neg) ∧ w'.cell? ⟨w.heap.size, 1, none⟩ = some (.slice A n c) ∧ w'.cell? ⟨w.heap.size + 1, 0, none⟩ = some (.bool neg') ∧ w'.cell? ⟨w.heap.size + 1, 1, none⟩ = some (.slice A' n' c')) ∧ RS (w.heap.size + 1 + 1) 40 W w')
    (first | (with_reducible refine HS.out _ ?_; with_reducible assumption) | (with_reducible refine HS.out _ (RS.drew ?_); with_reducible assumption) | (with_reducible refine' HS.out _ (RS.drew (And.right ?_)); rotate_left; with_reducible assumption) | (with_reducible refine' HS.out _ (RS.set (And.right ?_) _ _); rotate_left; with_reducible assumption))
    (first
     | (go_at_call 145; have hk := And.right ‹_ ∧ RS (w.heap.size + 1 + 1) 40 W _›; refine (HMU.out _ hk).mono ?_; rintro e w1 ⟨p1, ⟨A1, c1, rfl, hk1, hcm1, hW1, hF1, hb1⟩, hp1⟩; have hz1 := hk.1.size; have hr1 := hk.call hb1; have HP := Lib.hid hp1; clear hp1)
     | (go_at_call 144; have hk := And.right ‹_ ∧ RS (w.heap.size + 1 + 1) 40 W _›; refine (build_any (neg != neg') A1 _ c1 _ _ hW1 hk1 (by omega)).mono ?_; intro e w2 hr; have hr := RetZ.of_in hb1 hW1 hF1 hk1 hr; rw [HP.out] at hr; obtain ⟨A2, k2, c2, rfl, hk2, hW2, hF2, hb2⟩ := hr; have hr2 := RS.call ‹RS _ _ W (World.drew _)› hb2; obtain ⟨_, _, c0, c1, f0, f1⟩ := hr2.two))
   have hfin := retZ_close hBW (by omega) (by have := HSZ.out; omega) hr2 hk2 hW2 hF2
   obtain ⟨d0, d1, -, -⟩ := (hr2.done (.bool (decide (sg (neg != neg') (m * m') < 0))) (.slice A2 k2 c2)).two
   have HF := Lib.hid hfin
   clear hfin hr
   go_wp2
   refine bodyPost_ret (v := .agg #[.bool (decide (sg (neg != neg') (m * m') < 0)), .slice A2 k2 c2]) ?_ rfl HF.out
   simp [results, Tryz.results97, go_sem, d0, d1]

end Go.Proofs.YtjajigkacccdgaaGreat
