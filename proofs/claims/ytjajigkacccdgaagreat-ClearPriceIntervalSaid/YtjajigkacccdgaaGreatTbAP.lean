/-
The iterator over the words of two magnitudes (package whole). A region that draws its order inside a round of a range over a function: it may be walked as outside of it, with loads taken first. No statement of the seat is proved here; no conditions beyond those of each theorem.
-/
import Derived.Test.YtjajigkacccdgaaGreatTbAC
import Derived.Test.YtjajigkacccdgaaGreatTbAO
import Derived.RangeFuncBox
import Derived.RangeFuncNested
import Derived.RangeFuncLeaves
import Derived.Shelf.Abstract
import Derived.OwnWalkIn
import Derived.TacticsInMore
import Derived.LoopNIn
import Derived.LoopIn
import Derived.Maps.AppendAt
import Derived.OrdersIn
import Derived.OrdersHeld
import Derived.Deep.RegionHeld3
namespace Go.Proofs.YtjajigkacccdgaaGreat
set_option linter.unusedVariables false
set_option linter.unusedSimpArgs false
open Go.RowKit Go.Shelf
open Wd
attribute [local go_sem] Oper.semAt_some

/-- Two words at the same place. -/
abbrev PW := { p : Nat × Nat // p.1 < 4294967296 ∧ p.2 < 4294967296 }
def PW.enc (x : PW) : Array Value := #[.int .u64 (x.1.1 : Int), .int .u64 (x.1.2 : Int)]
def pw (l l' : List Nat) (h : Ws l) (h' : Ws l') (i : Nat) : PW := ⟨(l[i]?.getD 0, l'[i]?.getD 0), h.get i, h'.get i⟩
def pws (l l' : List Nat) (h : Ws l) (h' : Ws l') (k : Nat) : List PW := (List.range k).map (pw l l' h h')
theorem pws_succ (l l' : List Nat) (h : Ws l) (h' : Ws l') (k : Nat) : pws l l' h h' (k + 1) = pws l l' h h' k ++ [pw l l' h h' k] := by simp [pws, List.range_succ]
theorem pws_length (l l' : List Nat) (h : Ws l) (h' : Ws l') (k : Nat) : (pws l l' h h' k).length = k := by simp [pws]

/-- Words below block n₀, for the iterator. -/
def WatB (n₀ : Nat) (w : World) (A : Option Addr) (n : Nat) (l : List Nat) : Prop :=
 l.length = n ∧ (n ≠ 0 → ∃ b o, A = some ⟨b, o, none⟩ ∧ b < n₀ ∧ ∀ j, j < n → w.cell? ⟨b, o + j, none⟩ = some (.int .u32 ((l[j]?.getD 0 : Nat) : Int)))
theorem WatB.below {n₀ : Nat} {w w' : World} {A : Option Addr} {n : Nat} {l : List Nat} (h : WatB n₀ w A n l) (hb : Below n₀ w w') : WatB n₀ w' A n l := by
 refine ⟨h.1, fun hn => ?_⟩
 obtain ⟨b, o, rfl, hlt, hc⟩ := h.2 hn
 exact ⟨b, o, rfl, hlt, fun j hj => (hb.cell hlt).trans (hc j hj)⟩
theorem Wat.b {w : World} {A : Option Addr} {n : Nat} {l : List Nat} (h : Wat w A n l) : WatB w.heap.size w A n l := ⟨h.1, h.2.2⟩

/-- What lay below n₀ and the two boxes are kept. -/
def KpB (n₀ Ba Bb : Nat) (W W' : World) : Prop := Below n₀ W W' ∧ W'.heap[Ba]? = W.heap[Ba]? ∧ W'.heap[Bb]? = W.heap[Bb]?
theorem KpB.trans {n₀ Ba Bb : Nat} {A B C : World} (h : KpB n₀ Ba Bb A B) (k : KpB n₀ Ba Bb B C) : KpB n₀ Ba Bb A C := ⟨h.1.trans k.1, k.2.1.trans h.2.1, k.2.2.trans h.2.2⟩
theorem KpB.refl (n₀ Ba Bb : Nat) (A : World) : KpB n₀ Ba Bb A A := ⟨Below.refl _ _, rfl, rfl⟩
theorem KpB.put {n₀ Ba Bb : Nat} {w : World} (hn : n₀ ≤ w.heap.size) (ha : Ba < w.heap.size) (hb : Bb < w.heap.size) (W : World) (l : Nat) (o o' : Obj) (hl : w.heap.size ≤ l) (h : W.heap[l]? = some o) (hc : o.isCells = false) (hw : o.isWalk = false) : KpB n₀ Ba Bb W (W.putObj l o') := by
 have hbl : Below w.heap.size W (W.putObj l o') := belowK_b (w := w) (Nat.le_refl _) W l o o' hl h hc hw
 exact ⟨hbl.mono hn, hbl.block Ba ha, hbl.block Bb hb⟩

set_option maxRecDepth 100000 in
set_option maxHeartbeats 4000000 in
theorem pairs1_in (n : Nat) (hn : 1 ≤ n) (r Ba Bb n₀ : Nat) (A A' : Option Addr) (la lb ca cb : Nat) (l l' : List Nat) (h : Ws l) (h' : Ws l') (J Jx : List PW → World → Prop) (hla : la ≤ 10000000000) (hlb : lb ≤ 10000000000)
  (hY : ∀ pre x W, J pre W → pre.length < max la lb → YieldAt Fence.wide (n - 1) Tryz.prog r x.enc W fun e W' =>
   (e = .returned (.bool true) ∧ J (pre ++ [x]) W' ∧ KpB n₀ Ba Bb W W') ∨ (e = .returned (.bool false) ∧ Jx (pre ++ [x]) W'))
  (W : World) (hBa : W.cell? ⟨Ba, 0, none⟩ = some (.slice A la ca)) (hBb : W.cell? ⟨Bb, 0, none⟩ = some (.slice A' lb cb)) (ha : WatB n₀ W A la l) (hb : WatB n₀ W A' lb l') (h0 : J [] W) :
  CallsIn Fence.wide n Tryz.prog 226 #[.func (.yield r) #[] #[], .pointer (some ⟨Ba, 0, none⟩), .pointer (some ⟨Bb, 0, none⟩)] W fun e W' => (∃ v, e = .returned v) ∧
   ((∃ ys, ys = pws l l' h h' (max la lb) ∧ J ys W') ∨ (∃ pre, (∃ k, k ≤ max la lb ∧ pre = pws l l' h h' k) ∧ Jx pre W')) := by
 by_cases hcmp : la < lb
 ·have emax : max la lb = lb := by omega
  rw [emax] at hY ⊢
  have EM := Lib.hid emax
  clear emax
  refine callsIn_of_wp Tryz.func226 rfl trivial ?_ rfl
  simp only [Tryz.ntmps226, List.size_toArray, List.length_cons, List.length_nil, Nat.reduceAdd, Nat.reduceSub, Array.replicate_succ, Array.replicate_zero, List.push_toArray, List.append_toArray, List.nil_append, List.cons_append]
  gi_wp2
  gi_loopw [12] (fun i wr => ∃ k : Nat, k ≤ lb ∧ i = .int .i64 k ∧ J (pws l l' h h' k) wr ∧ Hid (KpB n₀ Ba Bb W wr)) (fun i _ => lb - (intOf i).toNat)
  case atStart => exact ⟨0, Nat.zero_le _, rfl, h0, KpB.refl _ _ _ _⟩
  case round =>
   obtain ⟨k, hk, rfl, hJs, hnx⟩ := hrel
   have hBa' := (World.cell?_of_block (a := ⟨Ba, 0, none⟩) hnx.out.2.1).trans hBa
   have hBb' := (World.cell?_of_block (a := ⟨Bb, 0, none⟩) hnx.out.2.2).trans hBb
   have HHA := Lib.hid (ha.below hnx.out.1)
   have HHB := Lib.hid (hb.below hnx.out.1)
   by_cases hlt : k < lb
   ·obtain ⟨fn, tmps, assign, body, hy, hR⟩ := hY _ (pw l l' h h' k) wr hJs (by rw [pws_length]; exact hlt)
    have HR := Lib.hid hR
    clear hR
    have ea : la ≤ k → l[k]?.getD 0 = 0 := fun hle => by rw [List.getElem?_eq_none (by have := HHA.out.1; omega)]; rfl
    have eb : lb ≤ k → l'[k]?.getD 0 = 0 := fun hle => by rw [List.getElem?_eq_none (by have := HHB.out.1; omega)]; rfl
    have wa := h.get k
    have wb := h'.get k
    simp only [pw, PW.enc] at hy
    have i1 : (0 : Int) ≤ (k : Int) := by omega
    by_cases hka : k < la
    ·obtain ⟨b1, o1, rfl, hb1, hc1⟩ := HHA.out.2 (by omega)
     have hca := hc1 k hka
     generalize l[k]?.getD 0 = x at *
     have ka : (k : Int) < (la : Int) := by omega
     by_cases hkb : k < lb
     ·obtain ⟨b2, o2, rfl, hb2, hc2⟩ := HHB.out.2 (by omega)
      have hcb := hc2 k hkb
      generalize l'[k]?.getD 0 = y at *
      have kb : (k : Int) < (lb : Int) := by omega
      clear hc1 hc2 ea eb
      gi_wp2
      refine HR.out.mono ?_
      rintro e W3 (⟨rfl, hJ3, hk3⟩ | ⟨rfl, hJx3⟩)
      ·have HN := Lib.hid (hnx.out.trans hk3)
       clear hk3
       gi_wp2
       go_roundw
       case rel => exact ⟨k + 1, by omega, by go_num, by rw [pws_succ]; exact hJ3, HN.out⟩
       case measure => simp [intOf]; omega
      ·gi_wp2
       refine bodyPost_ret (results_none rfl _ _ _) rfl ?_
       exact ⟨⟨_, rfl⟩, .inr ⟨_, ⟨k + 1, by omega, (pws_succ _ _ _ _ _).symm⟩, hJx3⟩⟩
     ·exact absurd hlt hkb
    ·rw [ea (by omega), show ((0 : Nat) : Int) = 0 from rfl] at hy
     have ka : ¬ ((k : Int) < (la : Int)) := by omega
     have hkb : k < lb := by omega
     obtain ⟨b2, o2, rfl, hb2, hc2⟩ := HHB.out.2 (by omega)
     have hcb := hc2 k hkb
     generalize l'[k]?.getD 0 = y at *
     have kb : (k : Int) < (lb : Int) := by omega
     clear hc2 ea eb
     gi_wp2
     refine HR.out.mono ?_
     rintro e W3 (⟨rfl, hJ3, hk3⟩ | ⟨rfl, hJx3⟩)
     ·have HN := Lib.hid (hnx.out.trans hk3)
      clear hk3
      gi_wp2
      go_roundw
      case rel => exact ⟨k + 1, by omega, by go_num, by rw [pws_succ]; exact hJ3, HN.out⟩
      case measure => simp [intOf]; omega
     ·gi_wp2
      refine bodyPost_ret (results_none rfl _ _ _) rfl ?_
      exact ⟨⟨_, rfl⟩, .inr ⟨_, ⟨k + 1, by omega, (pws_succ _ _ _ _ _).symm⟩, hJx3⟩⟩
   ·obtain rfl : k = lb := by omega
    gi_wp2
    go_end0
    exact ⟨⟨_, rfl⟩, .inl ⟨_, rfl, hJs⟩⟩
 ·have emax : max la lb = la := by omega
  rw [emax] at hY ⊢
  have EM := Lib.hid emax
  clear emax
  refine callsIn_of_wp Tryz.func226 rfl trivial ?_ rfl
  simp only [Tryz.ntmps226, List.size_toArray, List.length_cons, List.length_nil, Nat.reduceAdd, Nat.reduceSub, Array.replicate_succ, Array.replicate_zero, List.push_toArray, List.append_toArray, List.nil_append, List.cons_append]
  gi_wp2
  gi_loopw [12] (fun i wr => ∃ k : Nat, k ≤ la ∧ i = .int .i64 k ∧ J (pws l l' h h' k) wr ∧ Hid (KpB n₀ Ba Bb W wr)) (fun i _ => la - (intOf i).toNat)
  case atStart => exact ⟨0, Nat.zero_le _, rfl, h0, KpB.refl _ _ _ _⟩
  case round =>
   obtain ⟨k, hk, rfl, hJs, hnx⟩ := hrel
   have hBa' := (World.cell?_of_block (a := ⟨Ba, 0, none⟩) hnx.out.2.1).trans hBa
   have hBb' := (World.cell?_of_block (a := ⟨Bb, 0, none⟩) hnx.out.2.2).trans hBb
   have HHA := Lib.hid (ha.below hnx.out.1)
   have HHB := Lib.hid (hb.below hnx.out.1)
   by_cases hlt : k < la
   ·obtain ⟨fn, tmps, assign, body, hy, hR⟩ := hY _ (pw l l' h h' k) wr hJs (by rw [pws_length]; exact hlt)
    have HR := Lib.hid hR
    clear hR
    have ea : la ≤ k → l[k]?.getD 0 = 0 := fun hle => by rw [List.getElem?_eq_none (by have := HHA.out.1; omega)]; rfl
    have eb : lb ≤ k → l'[k]?.getD 0 = 0 := fun hle => by rw [List.getElem?_eq_none (by have := HHB.out.1; omega)]; rfl
    have wa := h.get k
    have wb := h'.get k
    simp only [pw, PW.enc] at hy
    have i1 : (0 : Int) ≤ (k : Int) := by omega
    by_cases hka : k < la
    ·obtain ⟨b1, o1, rfl, hb1, hc1⟩ := HHA.out.2 (by omega)
     have hca := hc1 k hka
     generalize l[k]?.getD 0 = x at *
     have ka : (k : Int) < (la : Int) := by omega
     by_cases hkb : k < lb
     ·obtain ⟨b2, o2, rfl, hb2, hc2⟩ := HHB.out.2 (by omega)
      have hcb := hc2 k hkb
      generalize l'[k]?.getD 0 = y at *
      have kb : (k : Int) < (lb : Int) := by omega
      clear hc1 hc2 ea eb
      gi_wp2
      refine HR.out.mono ?_
      rintro e W3 (⟨rfl, hJ3, hk3⟩ | ⟨rfl, hJx3⟩)
      ·have HN := Lib.hid (hnx.out.trans hk3)
       clear hk3
       gi_wp2
       go_roundw
       case rel => exact ⟨k + 1, by omega, by go_num, by rw [pws_succ]; exact hJ3, HN.out⟩
       case measure => simp [intOf]; omega
      ·gi_wp2
       refine bodyPost_ret (results_none rfl _ _ _) rfl ?_
       exact ⟨⟨_, rfl⟩, .inr ⟨_, ⟨k + 1, by omega, (pws_succ _ _ _ _ _).symm⟩, hJx3⟩⟩
     ·rw [eb (by omega), show ((0 : Nat) : Int) = 0 from rfl] at hy
      have kb : ¬ ((k : Int) < (lb : Int)) := by omega
      clear hc1 ea eb
      gi_wp2
      refine HR.out.mono ?_
      rintro e W3 (⟨rfl, hJ3, hk3⟩ | ⟨rfl, hJx3⟩)
      ·have HN := Lib.hid (hnx.out.trans hk3)
       clear hk3
       gi_wp2
       go_roundw
       case rel => exact ⟨k + 1, by omega, by go_num, by rw [pws_succ]; exact hJ3, HN.out⟩
       case measure => simp [intOf]; omega
      ·gi_wp2
       refine bodyPost_ret (results_none rfl _ _ _) rfl ?_
       exact ⟨⟨_, rfl⟩, .inr ⟨_, ⟨k + 1, by omega, (pws_succ _ _ _ _ _).symm⟩, hJx3⟩⟩
    ·exact absurd hlt hka
   ·obtain rfl : k = la := by omega
    gi_wp2
    go_end0
    exact ⟨⟨_, rfl⟩, .inl ⟨_, rfl, hJs⟩⟩

end Go.Proofs.YtjajigkacccdgaaGreat

namespace Go.Proofs.YtjajigkacccdgaaGreat
set_option linter.unusedVariables false
set_option linter.unusedSimpArgs false
open Go

theorem rowsIn_of {r n : Nat} {P : Program} {row : String} {args : Array Value} {w : World} {R : Value → World → Prop} (h : Rows P row args w R) : RowsIn (Fence.wide.inRound r) n P row args w R :=
 fun c cs _ => let ⟨v, w', q, s⟩ := h c cs; ⟨v, w', q, stepsIn_wide.2 s⟩

theorem wpOpIn_of_wpOp {r n : Nat} {P : Program} {ops : Array Oper} {Q : Exit → Act → World → Prop} {i : Nat} {K : Act → World → Prop} {a : Act} {w : World} (hnd : ∀ (j : Nat) (o : Oper), ops[j]? = some o → ∀ c, o.op ≠ .defer c) (hQ : ¬ LetsOut Q) (h : wpOp P ops Q i K a w) :
  wpOpIn (Fence.wide.inRound r) n P ops Q i K a w := by
 unfold wpOp at h
 unfold wpOpIn
 cases ho : ops[i]? with
 | none => rw [ho] at h; exact h
 | some o =>
  rw [ho] at h
  simp only at h ⊢
  split
  ·rename_i hw
   rw [if_pos hw] at h
   rcases h with h | ⟨_, hl⟩
   ·unfold Oper.wp at h
    unfold Oper.wpIn
    refine ⟨fun _ _ => trivial, ?_⟩
    rw [Fence.inRound_round, Oper.semAt_some _ _ _ (hnd i o ho)]
    generalize (execOp a.eval o).run P w = res at *
    cases res with
    | ok x w' =>
     cases x <;> simp only [Oper.upon, Oper.uponIn] at h ⊢ <;> first
      | exact h
      | exact ⟨fun hh => by simp [Fence.inRound, Fence.wide] at hh, CallsIn.inRound r (callsIn_wide.2 h)⟩
      | exact ⟨fun hh => by simp [Fence.inRound, Fence.wide] at hh, rowsIn_of h⟩
      | exact h.elim
    | halt x w' => cases x <;> simp only [Oper.upon, Oper.uponIn] at h ⊢ <;> exact h
   ·exact absurd hl hQ
  ·rename_i hw
   rw [if_neg hw] at h
   exact ⟨fun _ _ => trivial, h⟩

theorem wpAnyIn_of_wpAny {r n : Nat} {P : Program} {md : Region.Mode} {ops : Array Oper} {Q : Exit → Act → World → Prop} (hnd : ∀ (j : Nat) (o : Oper), ops[j]? = some o → ∀ c, o.op ≠ .defer c) (hQ : ¬ LetsOut Q) : ∀ (fuel : Nat) (listed : Array Bool) (a : Act) (w : World),
  wpAny P md ops Q fuel listed a w → wpAnyIn (Fence.wide.inRound r) n P md ops Q fuel listed a w
 | 0, _, _, _, h => h
 | fuel + 1, _, _, _, h => ⟨h.1, fun i hi => wpOpIn_mono (fun a' w' h' => wpAnyIn_of_wpAny hnd hQ fuel _ a' w' h') (wpOpIn_of_wpOp hnd hQ (h.2 i hi))⟩

/-- Q, and only where the region ends. -/
def OnlyN (Q : Exit → Act → World → Prop) : Exit → Act → World → Prop
 | .normal, a, w => Q .normal a w
 | _, _, _ => False
theorem OnlyN.imp {Q : Exit → Act → World → Prop} : ∀ (e : Exit) (a : Act) (w : World), OnlyN Q e a w → Q e a w := fun e a w h => by
 cases e <;> first | exact h | exact (h : False).elim
theorem OnlyN.noOut {Q : Exit → Act → World → Prop} : ¬ LetsOut (OnlyN Q) := fun ⟨_, _, h⟩ => h
def noDefer (ops : Array Oper) : Bool := ops.all fun o => match o.op with | .defer _ => false | _ => true
theorem noDefer_spec {ops : Array Oper} (h : noDefer ops = true) : ∀ (j : Nat) (o : Oper), ops[j]? = some o → ∀ c, o.op ≠ .defer c := by
 intro j o ho c hc
 obtain ⟨hj, rfl⟩ := Array.getElem?_eq_some_iff.1 ho
 have := (Array.all_eq_true.1 h) j hj
 rw [hc] at this
 simp at this
/-- The beginning of the walk. -/
theorem wpIn_round_held {r n : Nat} {P : Program} {ops : Array Oper} {Q : Exit → Act → World → Prop} {S : World → Prop} {id : Nat} {a : Act} {w : World} (hm : P.follows .mixedOrders = true) (hnd : noDefer ops = true) (hS : S w.drew)
  (h : S w.drew → wpAnyH P .any ops (OnlyN Q) S ops.size (Array.replicate ops.size false) a w.drew) : (Code.region id ops true).wpIn (Fence.wide.inRound r) n P Q a w :=
 Code.wpIn_mono OnlyN.imp (wpIn_region_any hm (wpAnyIn_of_wpAny (noDefer_spec hnd) OnlyN.noOut _ _ _ _ (wpAny_of_held _ _ _ _ (h hS))))

theorem rowsIn_of' {n : Nat} {P : Program} {row : String} {args : Array Value} {w : World} {R : Value → World → Prop} (h : Rows P row args w R) : RowsIn Fence.wide n P row args w R :=
 fun c cs _ => let ⟨v, w', q, s⟩ := h c cs; ⟨v, w', q, stepsIn_wide.2 s⟩
theorem wpOpIn_of_wpOp' {n : Nat} {P : Program} {ops : Array Oper} {Q : Exit → Act → World → Prop} {i : Nat} {K : Act → World → Prop} {a : Act} {w : World} (hQ : ¬ LetsOut Q) (h : wpOp P ops Q i K a w) :
  wpOpIn Fence.wide n P ops Q i K a w := by
 unfold wpOp at h
 unfold wpOpIn
 cases ho : ops[i]? with
 | none => rw [ho] at h; exact h
 | some o =>
  rw [ho] at h
  simp only at h ⊢
  split
  ·rename_i hw
   rw [if_pos hw] at h
   rcases h with h | ⟨_, hl⟩
   ·unfold Oper.wp at h
    unfold Oper.wpIn
    refine ⟨fun _ _ => trivial, ?_⟩
    rw [show Fence.wide.round = none from rfl, Oper.semAt_none]
    generalize (execOp a.eval o).run P w = res at *
    cases res with
    | ok x w' =>
     cases x <;> simp only [Oper.upon, Oper.uponIn] at h ⊢ <;> first
      | exact h
      | exact ⟨fun hh => by simp [Fence.wide] at hh, callsIn_wide.2 h⟩
      | exact ⟨fun hh => by simp [Fence.wide] at hh, rowsIn_of' h⟩
      | exact h.elim
    | halt x w' => cases x <;> simp only [Oper.upon, Oper.uponIn] at h ⊢ <;> exact h
   ·exact absurd hl hQ
  ·rename_i hw
   rw [if_neg hw] at h
   exact ⟨fun _ _ => trivial, h⟩
theorem wpAnyIn_of_wpAny' {n : Nat} {P : Program} {md : Region.Mode} {ops : Array Oper} {Q : Exit → Act → World → Prop} (hQ : ¬ LetsOut Q) : ∀ (fuel : Nat) (listed : Array Bool) (a : Act) (w : World),
  wpAny P md ops Q fuel listed a w → wpAnyIn Fence.wide n P md ops Q fuel listed a w
 | 0, _, _, _, h => h
 | fuel + 1, _, _, _, h => ⟨h.1, fun i hi => wpOpIn_mono (fun a' w' h' => wpAnyIn_of_wpAny' hQ fuel _ a' w' h') (wpOpIn_of_wpOp' hQ (h.2 i hi))⟩
/-- The same outside of a round. -/
theorem wpIn_wide_held {n : Nat} {P : Program} {ops : Array Oper} {Q : Exit → Act → World → Prop} {S : World → Prop} {id : Nat} {a : Act} {w : World} (hm : P.follows .mixedOrders = true) (hS : S w.drew)
  (h : S w.drew → wpAnyH P .any ops (OnlyN Q) S ops.size (Array.replicate ops.size false) a w.drew) : (Code.region id ops true).wpIn Fence.wide n P Q a w :=
 Code.wpIn_mono OnlyN.imp (wpIn_region_any hm (wpAnyIn_of_wpAny' OnlyN.noOut _ _ _ _ (wpAny_of_held _ _ _ _ (h hS))))

end Go.Proofs.YtjajigkacccdgaaGreat
