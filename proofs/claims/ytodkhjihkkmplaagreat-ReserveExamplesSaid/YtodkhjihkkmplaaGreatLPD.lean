/-
Contract of mulWords of package whole: the words of the product. A region that draws its order inside a round of a range over a function: it may be walked as outside of it, with loads taken first. No statement of the seat is proved here; no conditions beyond those of each theorem.
-/
import Derived.Test.YtodkhjihkkmplaaGreatLPB
import Derived.Test.YtodkhjihkkmplaaGreatLPC
import Derived.Laws.MakeOwn
import Derived.RangeFuncBox
import Derived.RangeFuncNested
import Derived.RangeFuncLeaves
import Derived.TacticsInMore
import Derived.OrdersIn
import Derived.OrdersHeld
import Derived.Deep.RegionHeld3
namespace Go.Proofs.YtodkhjihkkmplaaGreat
set_option linter.unusedVariables false
set_option linter.unusedSimpArgs false
open Go.RowKit
open Wd

theorem made_one (z : Value) (n : Nat) : madeCells #[z] n = Array.replicate n z := by
 apply Array.ext
 ·simp [madeCells]
 ·intro i h1 h2
  simp [madeCells]
  have : i % 1 = 0 := by omega
  simp [this]

/-- The cells of a list of words. -/
def wcells (p : List Nat) : Array Value := (u32s p).toArray
theorem wcells_zero (n : Nat) : madeCells #[.int .u32 0] n = wcells (List.replicate n 0) := by
 rw [made_one]; unfold wcells u32s; simp

theorem run_make_u32 (k : Nat) (hk : k ≤ 1000000000000) (w : World) :
  (Instr.makeSlice 27 (.int .i64 (k : Int)) (.int .i64 (k : Int))).run Tryz.prog w = .ok (.slice (some ⟨w.heap.size, 0, none⟩) k k) (w.alloc (.cells (wcells (List.replicate k 0)) 50)) := by
 obtain ⟨i0, hi, hz0, hz1, hz2⟩ := info_parts info_u32
 have h := run_make (P := Tryz.prog) w 27 50 i0 (.int .u32 0) Tryz.underlying27 hi hz0 .i64 .i64 k k (by omega) (Int.le_refl _) (by rw [hz2]; omega) (by omega)
 rw [h, hz1]
 simp only [Int.toNat_natCast, Nat.mul_one, Value.cells]
 rw [wcells_zero]

theorem Blk.word {w : World} {g : Nat} {t : TypeId} {p : List Nat} (h : Blk w g t (wcells p)) {j : Nat} (hj : j < p.length) : w.cell? ⟨g, j, none⟩ = some (.int .u32 ((p[j]?.getD 0 : Nat) : Int)) := by
 rw [h.cell j]
 unfold wcells
 rw [List.getElem?_toArray, u32s_get, List.getElem?_eq_getElem hj]
 rfl
theorem Blk.setWord {w : World} {g : Nat} {t : TypeId} {p : List Nat} (h : Blk w g t (wcells p)) (j d : Nat) : Blk (w.setCell ⟨g, j, none⟩ (.int .u32 (d : Int))) g t (wcells (p.set j d)) := by
 have := h.set j (.int .u32 (d : Int))
 have e : (wcells p).setIfInBounds j (.int .u32 (d : Int)) = wcells (p.set j d) := by
  unfold wcells u32s
  rw [List.setIfInBounds_toArray, ← List.map_set]
 rwa [e] at this
/-- A block of words reads as words. -/
theorem Blk.wat {w : World} {g base : Nat} {p : List Nat} {t : TypeId} (h : Blk w g t (wcells p)) (hp : Ws p) (hb : base ≤ g) : Wat w (some ⟨g, 0, none⟩) p.length p ∧ Fresh base w (some ⟨g, 0, none⟩) p.length :=
 ⟨⟨rfl, hp, fun _ => ⟨g, 0, rfl, h.lt, fun j hj => by rw [Nat.zero_add]; exact h.word hj⟩⟩, fun _ => ⟨g, 0, rfl, hb, fun j _ => by rw [Nat.zero_add]; exact h.frozen j⟩⟩

def MulO (w : World) (g : Nat) (a b : List Nat) (i : Nat) (p : List Nat) (wr : World) : Prop :=
 OInv a b i p ∧ Blk wr g 50 (wcells p) ∧ Below w.heap.size w wr
def MulI (w : World) (g h : Nat) (p0 : List Nat) (x : Nat) (b : List Nat) (i k : Nat) (p : List Nat) (c : Nat) (wr : World) : Prop :=
 MInv p0 x b i k p c ∧ Blk wr g 50 (wcells p) ∧ Blk wr h 102 #[.int .u64 (c : Int)] ∧ Below w.heap.size w wr

set_option maxHeartbeats 2000000 in
theorem mulWords_any (A A' : Option Addr) (n n' c c' : Nat) (l l' : List Nat) (w : World) (h : Wat w A n l) (h' : Wat w A' n' l') (hm : n ≤ 100000000000) (hm' : n' ≤ 100000000000) :
  Calls Tryz.prog 88 #[.slice A n c, .slice A' n' c'] w fun e w' => ∃ p, RetW w (n + n') p e w' ∧ val p = val l * val l' := by
 have hmk := fun w => run_make_u32 (n + n') (by omega) w
 rw [show ((n + n' : Nat) : Int) = (n : Int) + (n' : Int) by omega] at hmk
 have hl := h.1
 have hl' := h'.1
 have HL := Lib.hid hl
 have HL' := Lib.hid hl'
 clear hl hl'
 go_enter Tryz.func88, Tryz.ntmps88
 go_wp2_with fail
 have hstart : MulO w w.heap.size l l' 0 (List.replicate (n + n') 0) (w.alloc (.cells (wcells (List.replicate (n + n') 0)) 50)) :=
  ⟨by have := OInv.start l l'; rw [HL.out, HL'.out] at this; exact this, Blk.new _ _ _, (Below.refl _ _).alloc (Nat.le_refl _) _⟩
 generalize w.alloc (.cells (wcells (List.replicate (n + n') 0)) 50) = W0 at *
 generalize List.replicate (n + n') 0 = p0 at *
 go_loopw [19] (fun t wr => ∃ (i : Nat) (p : List Nat), i ≤ n ∧ t = .int .i64 i ∧ MulO w w.heap.size l l' i p wr) (fun t _ => n - (intOf t).toNat)
 case atStart => exact ⟨0, p0, Nat.zero_le _, rfl, hstart⟩
 case round =>
  obtain ⟨i, p, hi, rfl, hO, hP, hB⟩ := hrel
  clear hmk hstart
  by_cases hlt : i < n
  ·have hW := h.below hB
   obtain ⟨b, o, rfl, hb, hcell⟩ := hW.2.2 (by omega)
   have hck := hcell i hlt
   have hx := h.2.1.get i
   clear hcell hW
   generalize hxe : l[i]?.getD 0 = x at *
   have HX := Lib.hid hxe
   clear hxe
   go_wp2_with fail
   refine (carrier_any 0 wr).mono ?_
   rintro e w1 ⟨rfl, rfl⟩
   go_wp2_with fail
   have hst : MulI w w.heap.size wr.heap.size p x l' i 0 p 0 (wr.alloc (.cells #[.int .u64 0] 102)) :=
    ⟨MInv.start x l' i hO.ws, hP.alloc _, Blk.new _ _ _, hB.alloc hB.size _⟩
   have hne : w.heap.size < wr.heap.size := hP.lt
   have hO' := Lib.hid hO
   clear hO hP hB hck
   generalize wr.alloc (.cells #[.int .u64 0] 102) = W1 at *
   generalize hge : wr.heap.size = g at *
   clear hge
   go_loopw [27] (fun t wr => ∃ (k : Nat) (q : List Nat) (cc : Nat), k ≤ n' ∧ t = .int .i64 k ∧ MulI w w.heap.size g p x l' i k q cc wr) (fun t _ => n' - (intOf t).toNat)
   case atStart => exact ⟨0, p, 0, Nat.zero_le _, rfl, hst⟩
   case round =>
    obtain ⟨k, q, cc, hk, rfl, hI, hP, hG, hB⟩ := hrel
    clear hst
    by_cases hlt2 : k < n'
    ·have hW := h'.below hB
     obtain ⟨b', o', rfl, hb', hcell⟩ := hW.2.2 (by omega)
     have hck := hcell k hlt2
     have hy := h'.2.1.get k
     have hjl : i + k < q.length := by rw [hI.len, hO'.out.len, HL.out, HL'.out]; omega
     have hpc := hP.word hjl
     have hpl := hI.ws.get (i + k)
     have hcl := hI.cl
     have hbd := hI.bound hx h'.2.1
     have hst := hI.step hx h'.2.1 (k := k) (by rw [HL'.out]; exact hlt2) (by rw [← hI.len]; exact hjl)
     generalize q[i + k]?.getD 0 = v at *
     generalize l'[k]?.getD 0 = y at *
     have hxy : (x : Int) * (y : Int) = ((x * y : Nat) : Int) := by omega
     have hmu : (x : Int) * (y : Int) ≤ 18446744065119617025 := by
      have : x * y ≤ 4294967295 * 4294967295 := Nat.mul_le_mul (by omega) (by omega)
      omega
     have hm0 : (0 : Int) ≤ (x : Int) * (y : Int) := by omega
     have HBD := Lib.hid hbd
     have HXY := Lib.hid hxy
     have HST := Lib.hid hst
     have HMU := Lib.hid hmu
     have hw1 : IntKind.u64.wrap ((x : Int) * (y : Int)) = (x : Int) * (y : Int) := by rw [IntKind.wrap_u64]; omega
     have hw2 : IntKind.u64.wrap ((v : Int) + (x : Int) * (y : Int)) = (v : Int) + (x : Int) * (y : Int) := by rw [IntKind.wrap_u64]; omega
     clear hcell hW hst hbd hxy hmu
     go_wp2_with fail
     have e1 : ((v : Int) + (x : Int) * (y : Int) + (cc : Int)) % 4294967296 = (((v + x * y + cc) % 4294967296 : Nat) : Int) := by rw [HXY.out]; omega
     have e2 : ((v : Int) + (x : Int) * (y : Int) + (cc : Int)) / 4294967296 = (((v + x * y + cc) / 4294967296 : Nat) : Int) := by rw [HXY.out]; omega
     refine (next_any g _ cc wr hG (by have := HXY.out; omega) (by omega) (by have := HXY.out; have := HBD.out; omega)).mono ?_
     rw [e1, e2]
     generalize (v + x * y + cc) % 4294967296 = r at *
     generalize (v + x * y + cc) / 4294967296 = d at *
     rintro e w1 ⟨rfl, rfl⟩
     have hP1 := hP.far (p := ⟨g, 0, none⟩) (by simp; omega) (.int .u64 (d : Int))
     have hG1 := hG.set 0 (.int .u64 (d : Int))
     have hB1 := hB.setCell (p := ⟨g, 0, none⟩) (by simp; omega) (.int .u64 (d : Int))
     have hP2 := hP1.setWord (i + k) r
     have hG2 := hG1.far (p := ⟨w.heap.size, i + k, none⟩) (by simp; omega) (.int .u32 (r : Int))
     have hB2 := hB1.setCell (p := ⟨w.heap.size, i + k, none⟩) (by simp) (.int .u32 (r : Int))
     have hc1 := hP1.word hjl
     have hf1 := hP1.frozen (i + k)
     have hil : i + k < n + n' := by omega
     clear e1 e2 hP hG hB hP1 hG1 hB1 hI hck hpc hw1 hw2 HMU HXY hm0
     generalize wr.setCell ⟨g, 0, none⟩ (.int .u64 (d : Int)) = w2 at *
     go_wp2
     go_roundw
     case rel => exact ⟨k + 1, _, d, by omega, by go_num, HST.out, hP2, hG2, hB2⟩
     case measure => simp [intOf]; omega
    ·obtain rfl : k = n' := by omega
     have hjl : i + k < q.length := by rw [hI.len, hO'.out.len, HL.out, HL'.out]; omega
     have hcl := hI.cl
     rw [← HL'.out] at hI
     rw [← HX.out] at hI
     have hst := hO'.out.step (i := i) (by rw [HL.out]; exact hlt) hI
     rw [HL'.out] at hst
     have HST := Lib.hid hst
     have hpc := hP.word hjl
     clear hI hst
     go_wp2_with fail
     refine (next_any g 0 cc wr hG (by omega) (by omega) (by omega)).mono ?_
     rw [show ((0 : Int) + (cc : Int)) % 4294967296 = ((cc : Nat) : Int) by omega]
     generalize ((0 : Int) + (cc : Int)) / 4294967296 = d at *
     rintro e w1 ⟨rfl, rfl⟩
     have hP1 := hP.far (p := ⟨g, 0, none⟩) (by simp; omega) (.int .u64 d)
     have hB1 := hB.setCell (p := ⟨g, 0, none⟩) (by simp; omega) (.int .u64 d)
     have hP2 := hP1.setWord (i + k) cc
     have hB2 := hB1.setCell (p := ⟨w.heap.size, i + k, none⟩) (by simp) (.int .u32 (cc : Int))
     have hc1 := hP1.word hjl
     have hf1 := hP1.frozen (i + k)
     have hil : i + k < n + k := by omega
     clear hP hG hB hP1 hB1 hpc
     generalize wr.setCell ⟨g, 0, none⟩ (.int .u64 d) = w2 at *
     go_wp2
     go_roundw
     case rel => exact ⟨i + 1, _, by omega, by go_num, HST.out, hP2, hB2⟩
     case measure => simp [intOf]; omega
  ·obtain rfl : i = n := by omega
   have hlen : p.length = i + n' := by rw [hO.len, HL.out, HL'.out]
   have hw := hP.wat hO.ws (Nat.le_refl w.heap.size)
   rw [hlen] at hw
   have HV : Hid (∃ p, RetW w (i + n') p (.returned (.slice (some ⟨w.heap.size, 0, none⟩) (i + n') (i + n'))) wr ∧ val p = val l * val l') := ⟨p, ⟨_, _, rfl, Nat.le_refl _, by simp only [maxLen]; omega, hw.1, hw.2, hB⟩, by rw [← HL.out] at hO; exact hO.done⟩
   clear hlen hw hO hP hB
   go_wp2
   go_ret
   exact HV.out

end Go.Proofs.YtodkhjihkkmplaaGreat

namespace Go.Proofs.YtodkhjihkkmplaaGreat
set_option linter.unusedVariables false
set_option linter.unusedSimpArgs false
open Go

theorem rowsIn_of {r n : Nat} {P : Program} {row : String} {args : Array Value} {w : World} {R : Value → World → Prop} (h : Rows P row args w R) : RowsIn (Fence.wide.inRound r) n P row args w R :=
 fun c cs _ => let ⟨v, w', q, s⟩ := h c cs; ⟨v, w', q, stepsIn_wide.2 s⟩

theorem wpOpIn_of_wpOp {r n : Nat} {P : Program} {ops : Array Oper} {Q : Exit → Act → World → Prop} {i : Nat} {K : Act → World → Prop} {a : Act} {w : World} (hnd : ∀ (j : Nat) (o : Oper), ops[j]? = some o → ∀ c, o.op ≠ .defer c) (hQ : ¬ LetsOut Q) (h : wpOp P ops Q i K a w) :
  wpOpIn (Fence.wide.inRound r) n P ops Q i K a w := by
 unfold wpOp at h
 unfold wpOpIn
 cases ho : ops[i]? with
 | none => rw [ho] at h; exact h
 | some o =>
  rw [ho] at h
  simp only at h ⊢
  split
  ·rename_i hw
   rw [if_pos hw] at h
   rcases h with h | ⟨_, hl⟩
   ·unfold Oper.wp at h
    unfold Oper.wpIn
    refine ⟨fun _ _ => trivial, ?_⟩
    rw [Fence.inRound_round, Oper.semAt_some _ _ _ (hnd i o ho)]
    generalize (execOp a.eval o).run P w = res at *
    cases res with
    | ok x w' =>
     cases x <;> simp only [Oper.upon, Oper.uponIn] at h ⊢ <;> first
      | exact h
      | exact ⟨fun hh => by simp [Fence.inRound, Fence.wide] at hh, CallsIn.inRound r (callsIn_wide.2 h)⟩
      | exact ⟨fun hh => by simp [Fence.inRound, Fence.wide] at hh, rowsIn_of h⟩
      | exact h.elim
    | halt x w' => cases x <;> simp only [Oper.upon, Oper.uponIn] at h ⊢ <;> exact h
   ·exact absurd hl hQ
  ·rename_i hw
   rw [if_neg hw] at h
   exact ⟨fun _ _ => trivial, h⟩

theorem wpAnyIn_of_wpAny {r n : Nat} {P : Program} {md : Region.Mode} {ops : Array Oper} {Q : Exit → Act → World → Prop} (hnd : ∀ (j : Nat) (o : Oper), ops[j]? = some o → ∀ c, o.op ≠ .defer c) (hQ : ¬ LetsOut Q) : ∀ (fuel : Nat) (listed : Array Bool) (a : Act) (w : World),
  wpAny P md ops Q fuel listed a w → wpAnyIn (Fence.wide.inRound r) n P md ops Q fuel listed a w
 | 0, _, _, _, h => h
 | fuel + 1, _, _, _, h => ⟨h.1, fun i hi => wpOpIn_mono (fun a' w' h' => wpAnyIn_of_wpAny hnd hQ fuel _ a' w' h') (wpOpIn_of_wpOp hnd hQ (h.2 i hi))⟩

/-- Q, and only where the region ends. -/
def OnlyN (Q : Exit → Act → World → Prop) : Exit → Act → World → Prop
 | .normal, a, w => Q .normal a w
 | _, _, _ => False
theorem OnlyN.imp {Q : Exit → Act → World → Prop} : ∀ (e : Exit) (a : Act) (w : World), OnlyN Q e a w → Q e a w := fun e a w h => by
 cases e <;> first | exact h | exact (h : False).elim
theorem OnlyN.noOut {Q : Exit → Act → World → Prop} : ¬ LetsOut (OnlyN Q) := fun ⟨_, _, h⟩ => h
def noDefer (ops : Array Oper) : Bool := ops.all fun o => match o.op with | .defer _ => false | _ => true
theorem noDefer_spec {ops : Array Oper} (h : noDefer ops = true) : ∀ (j : Nat) (o : Oper), ops[j]? = some o → ∀ c, o.op ≠ .defer c := by
 intro j o ho c hc
 obtain ⟨hj, rfl⟩ := Array.getElem?_eq_some_iff.1 ho
 have := (Array.all_eq_true.1 h) j hj
 rw [hc] at this
 simp at this
/-- The beginning of the walk. -/
theorem wpIn_round_held {r n : Nat} {P : Program} {ops : Array Oper} {Q : Exit → Act → World → Prop} {S : World → Prop} {id : Nat} {a : Act} {w : World} (hm : P.follows .mixedOrders = true) (hnd : noDefer ops = true) (hS : S w.drew)
  (h : S w.drew → wpAnyH P .any ops (OnlyN Q) S ops.size (Array.replicate ops.size false) a w.drew) : (Code.region id ops true).wpIn (Fence.wide.inRound r) n P Q a w :=
 Code.wpIn_mono OnlyN.imp (wpIn_region_any hm (wpAnyIn_of_wpAny (noDefer_spec hnd) OnlyN.noOut _ _ _ _ (wpAny_of_held _ _ _ _ (h hS))))

theorem rowsIn_of' {n : Nat} {P : Program} {row : String} {args : Array Value} {w : World} {R : Value → World → Prop} (h : Rows P row args w R) : RowsIn Fence.wide n P row args w R :=
 fun c cs _ => let ⟨v, w', q, s⟩ := h c cs; ⟨v, w', q, stepsIn_wide.2 s⟩
theorem wpOpIn_of_wpOp' {n : Nat} {P : Program} {ops : Array Oper} {Q : Exit → Act → World → Prop} {i : Nat} {K : Act → World → Prop} {a : Act} {w : World} (hQ : ¬ LetsOut Q) (h : wpOp P ops Q i K a w) :
  wpOpIn Fence.wide n P ops Q i K a w := by
 unfold wpOp at h
 unfold wpOpIn
 cases ho : ops[i]? with
 | none => rw [ho] at h; exact h
 | some o =>
  rw [ho] at h
  simp only at h ⊢
  split
  ·rename_i hw
   rw [if_pos hw] at h
   rcases h with h | ⟨_, hl⟩
   ·unfold Oper.wp at h
    unfold Oper.wpIn
    refine ⟨fun _ _ => trivial, ?_⟩
    rw [show Fence.wide.round = none from rfl, Oper.semAt_none]
    generalize (execOp a.eval o).run P w = res at *
    cases res with
    | ok x w' =>
     cases x <;> simp only [Oper.upon, Oper.uponIn] at h ⊢ <;> first
      | exact h
      | exact ⟨fun hh => by simp [Fence.wide] at hh, callsIn_wide.2 h⟩
      | exact ⟨fun hh => by simp [Fence.wide] at hh, rowsIn_of' h⟩
      | exact h.elim
    | halt x w' => cases x <;> simp only [Oper.upon, Oper.uponIn] at h ⊢ <;> exact h
   ·exact absurd hl hQ
  ·rename_i hw
   rw [if_neg hw] at h
   exact ⟨fun _ _ => trivial, h⟩
theorem wpAnyIn_of_wpAny' {n : Nat} {P : Program} {md : Region.Mode} {ops : Array Oper} {Q : Exit → Act → World → Prop} (hQ : ¬ LetsOut Q) : ∀ (fuel : Nat) (listed : Array Bool) (a : Act) (w : World),
  wpAny P md ops Q fuel listed a w → wpAnyIn Fence.wide n P md ops Q fuel listed a w
 | 0, _, _, _, h => h
 | fuel + 1, _, _, _, h => ⟨h.1, fun i hi => wpOpIn_mono (fun a' w' h' => wpAnyIn_of_wpAny' hQ fuel _ a' w' h') (wpOpIn_of_wpOp' hQ (h.2 i hi))⟩
/-- The same outside of a round. -/
theorem wpIn_wide_held {n : Nat} {P : Program} {ops : Array Oper} {Q : Exit → Act → World → Prop} {S : World → Prop} {id : Nat} {a : Act} {w : World} (hm : P.follows .mixedOrders = true) (hS : S w.drew)
  (h : S w.drew → wpAnyH P .any ops (OnlyN Q) S ops.size (Array.replicate ops.size false) a w.drew) : (Code.region id ops true).wpIn Fence.wide n P Q a w :=
 Code.wpIn_mono OnlyN.imp (wpIn_region_any hm (wpAnyIn_of_wpAny' OnlyN.noOut _ _ _ _ (wpAny_of_held _ _ _ _ (h hS))))

end Go.Proofs.YtodkhjihkkmplaaGreat
