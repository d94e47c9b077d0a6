/-
Rows of words that are written in place, and shortDiv of package whole. shiftLeft of package whole. estimate of package whole. No statement of the seat is proved here; no conditions beyond those of each theorem.
-/
import Derived.Test.YtjajigkacccdgaaGreatTdAO
import Derived.Test.YtjajigkacccdgaaGreatTdAD
namespace Go.Proofs.YtjajigkacccdgaaGreat
set_option linter.unusedVariables false
set_option linter.unusedSimpArgs false
open Go.RowKit
open Wd

/-- Words in a row that may be written: in block b from offset o on. -/
def Rw (w : World) (b o n : Nat) (p : List Nat) : Prop :=
 p.length = n ∧ Ws p ∧ b < w.heap.size ∧ (∀ j, j < n → w.cell? ⟨b, o + j, none⟩ = some (.int .u32 ((p[j]?.getD 0 : Nat) : Int))) ∧ ∀ j, j < n → w.frozen? ⟨b, o + j, none⟩ = false
theorem Rw.wat {w : World} {b o n : Nat} {p : List Nat} (h : Rw w b o n p) : Wat w (some ⟨b, o, none⟩) n p := ⟨h.1, h.2.1, fun _ => ⟨b, o, rfl, h.2.2.1, h.2.2.2.1⟩⟩
theorem Rw.of {w : World} {base n : Nat} {A : Option Addr} {p : List Nat} (h : Wat w A n p) (hf : Fresh base w A n) (hn : n ≠ 0) : ∃ b o, A = some ⟨b, o, none⟩ ∧ base ≤ b ∧ Rw w b o n p := by
 obtain ⟨b, o, rfl, h1, h2⟩ := h.2.2 hn
 obtain ⟨b', o', e, h3, h4⟩ := hf hn
 simp only [Option.some.injEq, Addr.mk.injEq] at e
 obtain ⟨rfl, rfl, _⟩ := e
 exact ⟨b, o, rfl, h3, h.1, h.2.1, h1, h2, h4⟩
theorem Rw.fresh {w : World} {base b o n : Nat} {p : List Nat} (h : Rw w b o n p) (hb : base ≤ b) : Fresh base w (some ⟨b, o, none⟩) n := fun _ => ⟨b, o, rfl, hb, h.2.2.2.2⟩
theorem Rw.blk {w : World} {g : Nat} {t : TypeId} {p : List Nat} (h : Blk w g t (wcells p)) (hp : Ws p) : Rw w g 0 p.length p :=
 ⟨rfl, hp, h.lt, fun j hj => by rw [Nat.zero_add]; exact h.word hj, fun j hj => h.frozen _⟩
theorem Rw.set {w : World} {b o n : Nat} {p : List Nat} (h : Rw w b o n p) {i d : Nat} (hi : i < n) (hd : d < 4294967296) : Rw (w.setCell ⟨b, o + i, none⟩ (.int .u32 (d : Int))) b o n (p.set i d) := by
 obtain ⟨h1, h2, h3, h4, h5⟩ := h
 refine ⟨by rw [List.length_set]; exact h1, h2.set i hd, by rw [World.size_setCell]; exact h3, fun j hj => ?_, fun j hj => by rw [World.frozen?_setCell]; exact h5 j hj⟩
 by_cases e : i = j
 ·subst e
  rw [World.cell?_setCell_same' w ⟨b, o + i, none⟩ _ (by rw [h4 i hi]; rfl), List.getElem?_set_self (by omega)]
  rfl
 ·rw [List.getElem?_set_ne e, ← h4 j hj]
  exact World.cell?_setCell_other _ _ _ _ (fun hh => e (by have := congrArg Addr.off hh; dsimp only at this; omega))
theorem Rw.heap {w w' : World} {b o n : Nat} {p : List Nat} (h : Rw w b o n p) (hs : w.heap.size ≤ w'.heap.size) (hk : w'.heap[b]? = w.heap[b]?) : Rw w' b o n p := by
 obtain ⟨h1, h2, h3, h4, h5⟩ := h
 refine ⟨h1, h2, Nat.lt_of_lt_of_le h3 hs, fun j hj => ?_, fun j hj => ?_⟩
 ·rw [World.cell?_of_block (a := ⟨b, o + j, none⟩) hk]; exact h4 j hj
 ·rw [← h5 j hj]
  simp only [World.frozen?, hk]
theorem Rw.below {w w' : World} {b o n B : Nat} {p : List Nat} (h : Rw w b o n p) (hb : Below B w w') (hB : b < B) : Rw w' b o n p := h.heap hb.size (hb.block b hB)
/-- All blocks that were there are as they were, but for block b. -/
structure Bx (b : Nat) (w w' : World) : Prop where
 os : w'.os = w.os
 tape : w'.tape = w.tape
 output : w'.output = w.output
 size : w.heap.size ≤ w'.heap.size
 block : ∀ k, k < w.heap.size → k ≠ b → w'.heap[k]? = w.heap[k]?
theorem Bx.refl (b : Nat) (w : World) : Bx b w w := ⟨rfl, rfl, rfl, Nat.le_refl _, fun _ _ _ => rfl⟩
theorem Bx.trans {b : Nat} {u v w : World} (h : Bx b u v) (k : Bx b v w) : Bx b u w := ⟨k.os.trans h.os, k.tape.trans h.tape, k.output.trans h.output, Nat.le_trans h.size k.size, fun j hj hne => (k.block j (Nat.lt_of_lt_of_le hj h.size) hne).trans (h.block j hj hne)⟩
theorem Bx.of {b : Nat} {w w' : World} (h : Below w.heap.size w w') : Bx b w w' := ⟨h.os, h.tape, h.output, h.size, fun k hk _ => h.block k hk⟩
theorem Bx.set {b : Nat} {w w' : World} (h : Bx b w w') (o : Nat) (v : Value) : Bx b w (w'.setCell ⟨b, o, none⟩ v) :=
 h.trans ⟨rfl, rfl, rfl, by rw [World.size_setCell]; exact Nat.le_refl _, fun k _ hne => Below.heap_setCell _ ⟨b, o, none⟩ v k hne⟩
theorem Bx.drew {b : Nat} {w w' : World} (h : Bx b w w') : Bx b w w'.drew := ⟨h.os, h.tape, h.output, h.size, h.block⟩
theorem Bx.below {b : Nat} {w0 w w' : World} (h : Below w0.heap.size w0 w) (k : Bx b w w') (hb : w0.heap.size ≤ b) : Below w0.heap.size w0 w' := ⟨k.os.trans h.os, k.tape.trans h.tape, k.output.trans h.output, Nat.le_trans h.size k.size, fun j hj => (k.block j (Nat.lt_of_lt_of_le hj h.size) (by omega)).trans (h.block j hj)⟩
theorem Bx.blk {b g : Nat} {w w' : World} {t : TypeId} {cs : Array Value} (h : Bx b w w') (hg : Blk w g t cs) (hne : g ≠ b) : Blk w' g t cs := (h.block g hg.lt hne).trans hg
theorem Bx.rw {b b' o n : Nat} {w w' : World} {p : List Nat} (h : Bx b w w') (hr : Rw w b' o n p) (hne : b' ≠ b) : Rw w' b' o n p := hr.heap h.size (h.block b' hr.2.2.1 hne)

theorem or_words (r d : Nat) (hr : r < 4294967296) (hd : d < 4294967296) : Go.bits .or .u64 ((r : Int) * 4294967296) (d : Int) = ((r * 4294967296 + d : Nat) : Int) := by
 rw [show ((r : Int) * 4294967296) = ((r * 4294967296 : Nat) : Int) by omega, u64_or_nat _ _ (by omega) (by omega), Nat.or_comm, or_shift _ _ hd hr]
 omega

set_option maxRecDepth 100000 in
set_option maxHeartbeats 4000000 in
theorem shortDiv_any (b o n c y : Nat) (l : List Nat) (w : World) (h : Rw w b o n l) (hn : n ≤ 10000000000) (hy : 0 < y) (hy2 : y < 4294967296) :
  Calls Tryz.prog 218 #[.slice (some ⟨b, o, none⟩) n c, .int .u64 (y : Int)] w fun e w' => ∃ p, e = .returned (.int .u64 ((val l % y : Nat) : Int)) ∧ Rw w' b o n p ∧ val p = val l / y ∧ Bx b w w' := by
 have w0 : IntKind.i64.wrap ((n : Int) - 1) = (n : Int) - 1 := IntWalk.i64_in _ (by omega)
 have hy0 : ((y : Int) == 0) = false := by simp; omega
 have hy1 : ¬ y = 0 := by omega
 have HL := Lib.hid h.1
 have HW := Lib.hid h.2.1
 have HS := Lib.hid (show SdInv l y n l 0 ∧ Rw w b o n l ∧ Bx b w w from ⟨by have := SdInv.start h.2.1 hy; rwa [h.1] at this, h, Bx.refl _ _⟩)
 have HY := Lib.hid hy
 have HY2 := Lib.hid hy2
 clear h hy hy2
 go_enter Tryz.func218, Tryz.ntmps218
 go_wp2
 go_loopw [5, 6] (fun t5 t6 wr => ∃ (k r : Nat) (i : Int) (p : List Nat), k ≤ n ∧ t6 = .int .i64 i ∧ i = (k : Int) - 1 ∧ t5 = .int .u64 (r : Int) ∧ Hid (SdInv l y k p r ∧ Rw wr b o n p ∧ Bx b w wr)) (fun _ t _ => (intOf t + 1).toNat)
 case atStart => exact ⟨n, 0, _, l, Nat.le_refl _, rfl, rfl, rfl, HS.out⟩
 case round =>
  clear HS
  obtain ⟨k, r, i, p, hk, rfl, hi, rfl, hR⟩ := hrel
  obtain ⟨wu, rfl⟩ : ∃ v, v = wr := ⟨_, rfl⟩
  cases k with
  | zero =>
   have hz : ¬ (0 : Int) ≤ i := by omega
   obtain ⟨h1, h2, h3⟩ := hR.out
   obtain ⟨h4, h5⟩ := h1.done
   have HF := Lib.hid (And.intro h2 (And.intro h4 h3))
   have HE := Lib.hid h5
   clear hR h1 h2 h3 h4 h5
   go_wp2
   go_ret
   exact ⟨ret_int (by rw [HE.out]; push_cast; rfl), p, HF.out⟩
  | succ k =>
   obtain rfl : i = (k : Int) := by omega
   obtain ⟨h1, h2, h3⟩ := hR.out
   have hl := HL.out
   obtain ⟨s1, s2, s3⟩ := h1.step HW.out (show k < l.length by omega) HY2.out
   have d0 := h2.2.2.2.1 k (by omega)
   have f0 := h2.2.2.2.2 k (by omega)
   rw [h1.low k (by omega)] at d0
   have hdw := HW.out.get k
   have hr := Nat.lt_trans h1.rest HY2.out
   have hor := or_words r (l[k]?.getD 0) hr hdw
   have wr1 : IntKind.u64.wrap ((r : Int) * 4294967296) = (r : Int) * 4294967296 := by rw [IntKind.wrap_u64]; omega
   have wd : IntKind.u64.wrap ((l[k]?.getD 0 : Nat) : Int) = ((l[k]?.getD 0 : Nat) : Int) := by rw [IntKind.wrap_u64]; omega
   have hn2 := h2.set (i := k) (by omega) s2
   have HN := Lib.hid (And.intro s1 (And.intro hn2 (h3.set (o + k) (.int .u32 (((r * 4294967296 + l[k]?.getD 0) / y : Nat) : Int)))))
   have HQ := Lib.hid (And.intro s2 s3)
   have i1 : (0 : Int) ≤ (k : Int) := by omega
   have i2 : (k : Int) < (n : Int) := by omega
   have hx64 := s3
   have q1 : IntKind.u64.wrap (((r * 4294967296 + l[k]?.getD 0 : Nat) : Int).tdiv (y : Int)) = (((r * 4294967296 + l[k]?.getD 0) / y : Nat) : Int) := by
    have := HY.out
    rw [IntWalk.u64_quo _ _ ⟨by omega, by omega, by omega⟩]; rfl
   have q2 : (((r * 4294967296 + l[k]?.getD 0 : Nat) : Int).tmod (y : Int)) = (((r * 4294967296 + l[k]?.getD 0) % y : Nat) : Int) := by
    rw [IntWalk.rem_in _ _ (by omega)]; rfl
   have q1' : IntKind.u64.wrap (((r * 4294967296 + l[k]?.getD 0 : Nat) : Int) / (y : Int)) = (((r * 4294967296 + l[k]?.getD 0) / y : Nat) : Int) := by
    have e : (((r * 4294967296 + l[k]?.getD 0 : Nat) : Int) / (y : Int)) = (((r * 4294967296 + l[k]?.getD 0) / y : Nat) : Int) := rfl
    have := Nat.lt_of_le_of_lt (Nat.div_le_self (r * 4294967296 + l[k]?.getD 0) y) hx64
    rw [e, IntKind.wrap_u64]
    generalize (r * 4294967296 + l[k]?.getD 0) / y = q at *
    clear q1
    omega
   have q2' : (((r * 4294967296 + l[k]?.getD 0 : Nat) : Int) % (y : Int)) = (((r * 4294967296 + l[k]?.getD 0) % y : Nat) : Int) := rfl
   generalize (r * 4294967296 + l[k]?.getD 0) / y = q at *
   generalize (r * 4294967296 + l[k]?.getD 0) % y = m at *
   have q3 : (q : Int) % 4294967296 = (q : Int) := by omega
   have wk : IntKind.i64.wrap ((k : Int) - 1) = (k : Int) - 1 := IntWalk.i64_in _ (by omega)
   generalize r * 4294967296 + l[k]?.getD 0 = x at *
   generalize l[k]?.getD 0 = d at *
   clear s1 s2 s3 hn2 h1 h2 h3 hR hdw hl hr hx64
   clear hi
   go_wp2
   go_roundw
   case rel => exact ⟨k, m, _, _, by omega, rfl, rfl, rfl, HN.out⟩
   case measure => simp [intOf]

end Go.Proofs.YtjajigkacccdgaaGreat

namespace Go.Proofs.YtjajigkacccdgaaGreat
set_option linter.unusedVariables false
set_option linter.unusedSimpArgs false
open Go.RowKit
open Wd

/-- The first k words times 2^s. -/
def shs (l : List Nat) (s k : Nat) : List Nat := (l.take k).map fun x => x * 2 ^ s
theorem shs_len {l : List Nat} {s k : Nat} (h : k ≤ l.length) : (shs l s k).length = k := by simp [shs, h]
theorem shs_succ {l : List Nat} {s k : Nat} (h : k < l.length) : shs l s (k + 1) = shs l s k ++ [l[k]?.getD 0 * 2 ^ s] := by
 unfold shs
 rw [List.take_succ_eq_append_getElem h, List.map_append, List.getElem?_eq_getElem h]
 rfl
theorem sh_bd {x s : Nat} (hx : x < 4294967296) (hs : s < 32) : x * 2 ^ s ≤ 9223372034707292160 := by
 have h1 : 2 ^ s ≤ 2 ^ 31 := Nat.pow_le_pow_right (by decide) (by omega)
 have : x * 2 ^ s ≤ 4294967295 * 2 ^ 31 := Nat.mul_le_mul (by omega) h1
 omega
theorem shs_carry {l : List Nat} {s k : Nat} (h : Ws l) (hs : s < 32) : cout 0 (shs l s k) < 4294967296 := by
 refine cout_lt (by decide) (by decide) fun t ht => ?_
 obtain ⟨x, hx, rfl⟩ := List.mem_map.1 ht
 have := sh_bd (h x (List.mem_of_mem_take hx)) hs
 omega
theorem shs_val {l : List Nat} {s : Nat} (h : Ws l) (hs : s < 32) : val (cdig 0 (shs l s l.length ++ [0])) = val l * 2 ^ s := by
 have h1 := cdig_val 0 (shs l s l.length ++ [0])
 have h2 := shs_carry (k := l.length) h hs
 rw [cout_snoc, Nat.zero_add, Nat.div_eq_of_lt h2, Nat.mul_zero, Nat.add_zero, Nat.zero_add] at h1
 rw [h1, val_append]
 simp only [val_cons, val_nil, Nat.mul_zero, Nat.add_zero]
 unfold shs
 rw [List.take_length]
 have := val_map_mul (fun x : Nat => x) (2 ^ s) l
 rw [List.map_id'] at this
 exact this
/-- Where shiftLeft's loop stands. -/
def ShL (w : World) (n s k : Nat) (l : List Nat) (wr : World) : Prop :=
 Blk wr (w.heap.size + 1) 59 (rowC (n + 1) (cdig 0 (shs l s k))) ∧ Blk wr w.heap.size 164 #[.int .u64 ((cout 0 (shs l s k) : Nat) : Int)] ∧ Below w.heap.size w wr
theorem ShL.step {w wr : World} {n k d c' : Nat} {ds : List Nat} {cc : Nat} (hB : Blk wr (w.heap.size + 1) 59 (rowC (n + 1) ds)) (hC : Blk wr w.heap.size 164 #[.int .u64 (cc : Int)]) (hW : Below w.heap.size w wr) (hd : ds.length = k) (hk : k + 1 ≤ n + 1) (o : Obj) :
  Blk (((wr.setCell ⟨w.heap.size, 0, none⟩ (.int .u64 (c' : Int))).alloc o).setCell ⟨w.heap.size + 1, k, none⟩ (.int .u32 (d : Int))) (w.heap.size + 1) 59 (rowC (n + 1) (ds ++ [d])) ∧ Blk (((wr.setCell ⟨w.heap.size, 0, none⟩ (.int .u64 (c' : Int))).alloc o).setCell ⟨w.heap.size + 1, k, none⟩ (.int .u32 (d : Int))) w.heap.size 164 #[.int .u64 (c' : Int)] ∧
   Below w.heap.size w (((wr.setCell ⟨w.heap.size, 0, none⟩ (.int .u64 (c' : Int))).alloc o).setCell ⟨w.heap.size + 1, k, none⟩ (.int .u32 (d : Int))) ∧
   ((wr.setCell ⟨w.heap.size, 0, none⟩ (.int .u64 (c' : Int))).alloc o).cell? ⟨w.heap.size + 1, k, none⟩ = some (.int .u32 0) ∧ ((wr.setCell ⟨w.heap.size, 0, none⟩ (.int .u64 (c' : Int))).alloc o).frozen? ⟨w.heap.size + 1, k, none⟩ = false := by
 have x0 := (Blk.far hB (p := ⟨w.heap.size, 0, none⟩) (by simp) (.int .u64 (c' : Int))).alloc o
 have x1 := (Blk.set hC 0 (.int .u64 (c' : Int))).alloc o
 have y0 := x0.set k (.int .u32 (d : Int))
 rw [rowC_set hd hk] at y0
 refine ⟨y0, Blk.far x1 (p := ⟨w.heap.size + 1, k, none⟩) (by simp) _, Below.setCell (Below.alloc (Below.setCell hW (p := ⟨w.heap.size, 0, none⟩) (Nat.le_refl _) _) (by rw [World.size_setCell]; exact hW.size) o) (p := ⟨w.heap.size + 1, k, none⟩) (by simp) _, rowC_next x0 hd hk, x0.frozen k⟩

set_option maxRecDepth 100000 in
set_option maxHeartbeats 4000000 in
theorem shiftLeft_any (A : Option Addr) (n c s : Nat) (l : List Nat) (w : World) (h : Wat w A n l) (hn : n ≤ 10000000000) (hs : s < 32) :
  Calls Tryz.prog 223 #[.slice A n c, .int .u64 (s : Int)] w fun e w' => ∃ g p, e = .returned (.slice (some ⟨g, 0, none⟩) (n + 1) (n + 1)) ∧ w.heap.size ≤ g ∧ Blk w' g 59 (wcells p) ∧ p.length = n + 1 ∧ Ws p ∧ val p = val l * 2 ^ s ∧ Below w.heap.size w w' := by
 obtain ⟨i0, hi, hz0, hz1, hz2⟩ := info_parts info_u32
 have hmk := fun w => run_make (P := Tryz.prog) w 38 59 i0 _ Tryz.underlying38 hi hz0 .i64 .i64 0 ((n : Int) + 1) (by omega) (by omega) (by rw [hz2]; omega) (by omega)
 have HH := Lib.hid h
 have HS := Lib.hid hs
 have wn : IntKind.i64.wrap ((n : Int) + 1) = (n : Int) + 1 := IntWalk.i64_in _ (by omega)
 clear h hs
 go_enter Tryz.func223, Tryz.ntmps223
 go_wp2_with fail
 refine (carrier_any 0 w).mono ?_
 rintro e w1 ⟨rfl, rfl⟩
 go_wp2_with fail
 rw [rowC_start]
 have HST := Lib.hid (show ShL w n s 0 l ((w.alloc (.cells #[.int .u64 0] 164)).alloc (.cells (rowC (n + 1) []) 59)) from
  ⟨Blk.new1 w _ _ _, (Blk.new w _ _).alloc _, ((Below.refl _ w).alloc (Nat.le_refl _) _).alloc (by simp) _⟩)
 clear hmk hi hz0 hz1 hz2
 go_loopw [6, 16] (fun t6 t wr => ∃ k : Nat, k ≤ n ∧ t = .int .i64 k ∧ t6 = .slice (some ⟨w.heap.size + 1, 0, none⟩) k (n + 1) ∧ Hid (ShL w n s k l wr)) (fun _ t _ => n - (intOf t).toNat)
 case atStart => exact ⟨0, Nat.zero_le _, rfl, rfl, HST.out⟩
 case round =>
  clear HST
  obtain ⟨k, hk, rfl, rfl, hR⟩ := hrel
  obtain ⟨wu, rfl⟩ : ∃ v, v = wr := ⟨_, rfl⟩
  have hln := HH.out.1
  have hws := HH.out.2.1
  obtain ⟨q0, q1, q2⟩ := hR.out
  have hcar := shs_carry (k := k) hws HS.out
  by_cases hlt : k < n
  ·obtain ⟨b, o, rfl, hb, hc⟩ := HH.out.2.2 (by omega)
   have d0 := (q2.cell (p := ⟨b, o + k, none⟩) hb).trans (hc k hlt)
   have hx := hws.get k
   have hbd := sh_bd hx HS.out
   have hdl : (cdig 0 (shs l s k)).length = k := by rw [cdig_len, shs_len (by omega)]
   have HNX := Lib.hid (fun W (hW : Blk W w.heap.size 164 #[.int .u64 ((cout 0 (shs l s k) : Nat) : Int)]) => next_nat w.heap.size (l[k]?.getD 0 * 2 ^ s) (cout 0 (shs l s k)) (((l[k]?.getD 0 : Nat) : Int) * 2 ^ s) (by push_cast; rfl) W hW (by omega))
   have hst := ShL.step (c' := (l[k]?.getD 0 * 2 ^ s + cout 0 (shs l s k)) / 4294967296) (d := (l[k]?.getD 0 * 2 ^ s + cout 0 (shs l s k)) % 4294967296) q0 q1 q2 hdl (by omega) (.cells #[.int .u32 (((l[k]?.getD 0 * 2 ^ s + cout 0 (shs l s k)) % 4294967296 : Nat) : Int)] 59)
   obtain ⟨z0, z1, z2, z3, z4⟩ := hst
   have hN : ShL w n s (k + 1) l _ := ⟨by rw [shs_succ (by omega), cdig_snoc]; exact z0, by rw [shs_succ (by omega), cout_snoc]; exact z1, z2⟩
   have HN := Lib.hid hN
   have e0 : ((l[k]?.getD 0 : Nat) : Int) * 2 ^ s = ((l[k]?.getD 0 * 2 ^ s : Nat) : Int) := by push_cast; rfl
   have wx : IntKind.u64.wrap (((l[k]?.getD 0 : Nat) : Int) * 2 ^ s) = ((l[k]?.getD 0 : Nat) : Int) * 2 ^ s := by rw [e0, IntKind.wrap_u64]; omega
   have wd : IntKind.u64.wrap ((l[k]?.getD 0 : Nat) : Int) = ((l[k]?.getD 0 : Nat) : Int) := by rw [IntKind.wrap_u64]; omega
   have hmn : min s 64 = s := by have := HS.out; omega
   have Q1 := Lib.hid q1
   generalize (l[k]?.getD 0 * 2 ^ s + cout 0 (shs l s k)) / 4294967296 = c' at *
   generalize (l[k]?.getD 0 * 2 ^ s + cout 0 (shs l s k)) % 4294967296 = d at *
   generalize cout 0 (shs l s k) = cc at *
   generalize l[k]?.getD 0 = x at *
   have i1 : (0 : Int) ≤ (k : Int) := by omega
   have i2 : (k : Int) < (n : Int) := by omega
   clear q0 q1 q2 z0 z1 z2 hN hR hc hb hcar hbd hdl e0 hln hws hx
   go_wp2_with fail
   refine (HNX.out _ Q1.out).mono ?_
   rintro e w3 ⟨rfl, rfl⟩
   clear HNX
   go_wp2
   go_roundw
   case rel => exact ⟨k + 1, by omega, by go_num, rfl, HN.out⟩
   case measure => simp [intOf]; omega
  ·obtain rfl : n = k := by omega
   have hdl : (cdig 0 (shs l s n)).length = n := by rw [cdig_len, shs_len (by omega)]
   have HNX := Lib.hid (fun W (hW : Blk W w.heap.size 164 #[.int .u64 ((cout 0 (shs l s n) : Nat) : Int)]) => next_nat w.heap.size 0 (cout 0 (shs l s n)) 0 rfl W hW (by omega))
   have hst := ShL.step (c' := (0 + cout 0 (shs l s n)) / 4294967296) (d := (0 + cout 0 (shs l s n)) % 4294967296) q0 q1 q2 hdl (by omega) (.cells #[.int .u32 (((0 + cout 0 (shs l s n)) % 4294967296 : Nat) : Int)] 59)
   obtain ⟨z0, z1, z2, z3, z4⟩ := hst
   have hv := shs_val hws HS.out
   rw [hln, cdig_snoc] at hv
   have hwsr : Ws (cdig 0 (shs l s n) ++ [(0 + cout 0 (shs l s n)) % 4294967296]) := by rw [← cdig_snoc]; exact cdig_Ws _ _
   have hlen : (cdig 0 (shs l s n) ++ [(0 + cout 0 (shs l s n)) % 4294967296]).length = n + 1 := by simp [hdl]
   have er : rowC (n + 1) (cdig 0 (shs l s n) ++ [(0 + cout 0 (shs l s n)) % 4294967296]) = wcells (cdig 0 (shs l s n) ++ [(0 + cout 0 (shs l s n)) % 4294967296]) := by
    unfold rowC wcells
    rw [hlen, Nat.sub_self]
    simp
   rw [er] at z0
   have HF := Lib.hid (And.intro z0 (And.intro hlen (And.intro hwsr (And.intro hv z2))))
   have Q1 := Lib.hid q1
   generalize (0 + cout 0 (shs l s n)) / 4294967296 = c' at *
   generalize cdig 0 (shs l s n) ++ [(0 + cout 0 (shs l s n)) % 4294967296] = pp at *
   generalize (0 + cout 0 (shs l s n)) % 4294967296 = d at *
   generalize cout 0 (shs l s n) = cc at *
   clear q0 q1 q2 z0 z1 z2 hR hcar hdl hln hws hv hwsr hlen er
   go_wp2_with fail
   refine (HNX.out _ Q1.out).mono ?_
   rintro e w3 ⟨rfl, rfl⟩
   clear HNX
   go_wp2
   go_ret
   exact ⟨w.heap.size + 1, pp, rfl, by omega, HF.out⟩

end Go.Proofs.YtjajigkacccdgaaGreat

namespace Go.Proofs.YtjajigkacccdgaaGreat
set_option linter.unusedVariables false
set_option linter.unusedSimpArgs false
open Go.RowKit
open Wd

/-- Where the guess stands: f and s the divisor's first words, t the dividend's first two, x its third, Q the digit. -/
def EsI (f s t x Q g r : Nat) : Prop := Q ≤ g ∧ g * f + r = t ∧ g ≤ 4294967297 ∧ r < 4294967296
/-- What a guess of one word less leaves. -/
theorem EsI.more {f s t x Q g r : Nat} (h : EsI f s t x Q g r) (hQ : Q < g) : Q ≤ g - 1 ∧ (g - 1) * f + (r + f) = t ∧ g - 1 ≤ 4294967296 ∧ 0 < g := by
 obtain ⟨h1, h2, h3, h4⟩ := h
 obtain ⟨g', rfl⟩ : ∃ g', g = g' + 1 := ⟨g - 1, by omega⟩
 rw [Nat.add_mul, Nat.one_mul] at h2
 refine ⟨by omega, ?_, by omega, by omega⟩
 rw [Nat.add_sub_cancel]
 omega
/-- The words that estimate looks at, as numbers. -/
structure EsF (f s t x P ul vl U V : Nat) : Prop where
 hV : V = (f * 4294967296 + s) * P + vl
 hU : U = (t * 4294967296 + x) * P + ul
 hul : ul < P
 hvl : vl < P
 hx : x < 4294967296
 hs : s < 4294967296
 hf : 4294967296 ≤ 2 * f
 hlt : U < 4294967296 * V
theorem EsF.pos {f s t x P ul vl U V : Nat} (h : EsF f s t x P ul vl U V) : 0 < V := by
 have h1 := h.hV
 have h2 := h.hvl
 have h3 := h.hf
 have : 1 * P ≤ (f * 4294967296 + s) * P := Nat.mul_le_mul_right P (by omega)
 omega
theorem EsF.start {f s t x P ul vl U V : Nat} (h : EsF f s t x P ul vl U V) (hfB : f < 4294967296) : EsI f s t x (U / V) (t / f) (t % f) := by
 obtain ⟨h1, h2⟩ := est_first h.hV h.hU h.hul h.hvl h.hx h.hs h.hf h.hlt
 have h3 := Nat.div_add_mod t f
 have h4 := Nat.mod_lt t (show 0 < f by have := h.hf; omega)
 refine ⟨h1, ?_, h2, by omega⟩
 rw [Nat.mul_comm]
 exact h3
theorem EsF.big {f s t x P ul vl U V g : Nat} (h : EsF f s t x P ul vl U V) (hg : 4294967296 ≤ g) : U / V < g := by
 have : U / V < 4294967296 := by rw [Nat.div_lt_iff_lt_mul h.pos]; exact h.hlt
 omega
theorem EsF.over {f s t x P ul vl U V g r : Nat} (h : EsF f s t x P ul vl U V) (hi : EsI f s t x (U / V) g r) (hg : r * 4294967296 + x < g * s) : U / V < g := by
 refine est_over h.hV h.hU h.hul h.pos ?_
 obtain ⟨_, h2, _, _⟩ := hi
 rw [← h2, Nat.add_mul, Nat.mul_add, Nat.mul_assoc]
 omega
theorem EsF.done {f s t x P ul vl U V g r : Nat} (h : EsF f s t x P ul vl U V) (h2 : g * f + r = t) (hg : g * s ≤ r * 4294967296 + x) (hB : g ≤ 4294967296) : g ≤ U / V + 1 := by
 refine est_done h.hV h.hU h.hvl (by have := h.hf; omega) ?_ hB
 rw [← h2, Nat.add_mul, Nat.mul_add, Nat.mul_assoc]
 omega
theorem EsF.brk {f s t x P ul vl U V g r : Nat} (h : EsF f s t x P ul vl U V) (h2 : g * f + r = t) (hr : 4294967296 ≤ r) (hB : g ≤ 4294967296) : g ≤ U / V + 1 := by
 refine h.done h2 ?_ hB
 have h3 : g * s ≤ 4294967296 * 4294967295 := Nat.mul_le_mul hB (by have := h.hs; omega)
 have h4 : 4294967296 * 4294967296 ≤ r * 4294967296 := Nat.mul_le_mul_right _ hr
 omega
/-- A window of words and a divisor's words, by their first words. -/
theorem esF_of {u v : List Nat} {m : Nat} (hu : Ws u) (hv : Ws v) (hul : u.length = m + 3) (hvl : v.length = m + 2) (hf : 2147483648 ≤ v[m + 1]?.getD 0) (hlt : val u < 4294967296 * val v) :
  EsF (v[m + 1]?.getD 0) (v[m]?.getD 0) (u[m + 2]?.getD 0 * 4294967296 + u[m + 1]?.getD 0) (u[m]?.getD 0) (4294967296 ^ m) (val (u.take m)) (val (v.take m)) (val u) (val v) := by
 have e1 := val_take_succ u m
 have e2 := val_take_succ u (m + 1)
 have e3 := val_take_succ u (m + 2)
 have f1 := val_take_succ v m
 have f2 := val_take_succ v (m + 1)
 rw [List.take_of_length_le (show u.length ≤ m + 2 + 1 by omega)] at e3
 rw [List.take_of_length_le (show v.length ≤ m + 1 + 1 by omega)] at f2
 have hP := Nat.pow_succ 4294967296 m
 have hP2 := Nat.pow_succ 4294967296 (m + 1)
 have l1 := val_lt (hu.take m)
 have l2 := val_lt (hv.take m)
 rw [List.length_take, Nat.min_eq_left (by omega)] at l1 l2
 refine ⟨?_, ?_, l1, l2, hu.get m, hv.get m, by omega, hlt⟩
 ·rw [f2, f1, hP, Nat.add_mul, Nat.mul_comm (v[m]?.getD 0), Nat.mul_assoc (4294967296 ^ m), Nat.mul_comm (4294967296 ^ m) (4294967296 * v[m + 1]?.getD 0), Nat.mul_comm 4294967296 (v[m + 1]?.getD 0)]
  omega
 ·rw [e3, e2, e1, hP2, hP]
  generalize 4294967296 ^ m = P
  generalize u[m + 2]?.getD 0 = a
  generalize u[m + 1]?.getD 0 = b
  generalize u[m]?.getD 0 = c
  have k1 : P * 4294967296 * 4294967296 * a = a * 4294967296 * 4294967296 * P := by rw [Nat.mul_comm, ← Nat.mul_assoc, ← Nat.mul_assoc, Nat.mul_comm (a * P), Nat.mul_comm a P, Nat.mul_comm _ 4294967296, Nat.mul_comm a]; simp only [Nat.mul_assoc, Nat.mul_comm, Nat.mul_left_comm]
  have k2 : P * 4294967296 * b = b * 4294967296 * P := by simp only [Nat.mul_assoc, Nat.mul_comm, Nat.mul_left_comm]
  have k3 : P * c = c * P := Nat.mul_comm _ _
  rw [Nat.add_mul, Nat.add_mul, Nat.add_mul, k1, k2, k3]
  omega

end Go.Proofs.YtjajigkacccdgaaGreat
