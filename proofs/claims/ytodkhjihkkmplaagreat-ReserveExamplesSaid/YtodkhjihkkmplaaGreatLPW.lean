/-
The reference of layer 1 at integers of any size: Sign, Abs, Neg, Least, Gcd. The reference of layer 1 at integers of any size: Gcd, Div without rest, Cmp of positive numbers. No statement of the seat is proved here; no conditions beyond those of each theorem.
-/
import Derived.Test.YtodkhjihkkmplaaGreatLRa9
import Derived.Deep.CutRange
import Derived.Deep.DeepCutAuto
import Derived.Deep.DrawnRows
namespace Go.Proofs.YtodkhjihkkmplaaGreat
set_option linter.unusedVariables false
set_option linter.unusedSimpArgs false
open Go.RowKit
open Wd

/-- An integer in memory, in whatever words. -/
def ZK (w : World) (an : Bool) (A : Option Addr) (n : Nat) (z : Int) : Prop := ∃ l, Wat w A n l ∧ n ≤ 10000000000 ∧ sg an (val l) = z ∧ (hd z.natAbs).length ≤ 6000000000
section
variable {w w' : World} {an : Bool} {A : Option Addr} {n c : Nat} {z : Int}
theorem ZK.below (h : ZK w an A n z) (hb : Below w.heap.size w w') : ZK w' an A n z := by
 obtain ⟨l, h1, h2⟩ := h
 exact ⟨l, h1.below hb, h2⟩
theorem ZK.len (h : ZK w an A n z) : (hd z.natAbs).length ≤ 6000000000 := h.choose_spec.2.2.2
theorem ZK.neg (h : ZK w an A n z) (h0 : z ≠ 0) : an = decide (z < 0) := by
 obtain ⟨l, h1, h2, h3, h4⟩ := h
 subst h3
 by_cases hv : val l = 0
 ·rw [hv, sg_zero] at h0; exact absurd rfl h0
 ·rw [sg_neg hv]
theorem ZK.sg (h : ZK w an A n z) : sg an z.natAbs = z := by
 obtain ⟨l, h1, h2, h3, h4⟩ := h
 rw [← h3, sg_natAbs]
theorem ZK.halves (h : ZK w an A n z) : Calls Tryz.prog 97 #[.slice A n c] w (RetH w z.natAbs) := by
 obtain ⟨l, h1, h2, h3, h4⟩ := h
 have := halves_any A n c l w h1 (by omega)
 rw [← h3, sg_natAbs]
 exact this
theorem digs_half {v K : Nat} (h : (hd v).length ≤ 2 * K) : (digs v).length ≤ K := by
 have h2 := hd_len_le.1 h
 rw [Nat.pow_mul] at h2
 exact digs_len_le.2 h2
theorem zk_of (h : Wat w A n (digs z.natAbs)) (hz : (hd z.natAbs).length ≤ 6000000000) : ZK w (decide (z < 0)) A n z := by
 refine ⟨_, h, ?_, by rw [val_digs, sg_self], hz⟩
 have := digs_half (v := z.natAbs) (K := 3000000000) (by omega)
 have h1 := h.1
 omega
end
theorem sg_flip (b : Bool) (v : Nat) : sg (!b) v = -(sg b v) := by unfold sg; cases b <;> simp

set_option maxHeartbeats 1000000 in
theorem rsign_z (an : Bool) (A : Option Addr) (n c : Nat) (z : Int) (w : World) (h : ZK w an A n z) :
  Calls Tryz.prog 66 #[.agg #[.bool an, .slice A n c]] w fun e w' => e = .returned (.int .i64 (cmpI z 0)) ∧ Below w.heap.size w w' := by
 have T := Lib.hid (fun W (hW : Below w.heap.size w W) => ZK.halves (c := c) (h.below hW))
 have HG := Lib.hid (fun h0 => h.neg h0)
 clear h
 go_enter Tryz.func66, Tryz.ntmps66
 go_wp2_with fail
 obtain ⟨hB0, hBW, hsz⟩ := pre1 w 29 #[.bool an, .slice A n c]
 generalize w.alloc (.cells #[.bool an, .slice A n c] 29) = W at *
 have HSZ := Lib.hid hsz
 clear hsz
 obtain ⟨c0, c1, -, -⟩ := hB0.two
 refine (T.out _ hBW).mono ?_
 rintro e w1 ⟨A1, n1, c2, rfl, hI, hb1⟩
 have hz := hI.zero
 have hB0 := hB0.below hb1 hB0.lt
 have HF := Lib.hid (hBW.trans (hb1.mono hBW.size))
 obtain ⟨c0, c1, -, -⟩ := hB0.two
 clear hBW hb1 hB0 HSZ T hI
 by_cases h0 : n1 = 0
 ·subst h0
  have hv : z = 0 := by have := hz.1 rfl; omega
  have HN := Lib.hid (show cmpI z 0 = 0 by rw [hv]; rfl)
  clear hz hv HG
  go_wp2
  go_ret
  exact ⟨by rw [HN.out]; rfl, HF.out⟩
 ·have hv : z ≠ 0 := fun h => h0 (hz.2 (by rw [h]; rfl))
  have hb := HG.out hv
  have d1 : ((n1 : Int) == 0) = false := by simp; omega
  have d2 : (n1 == 0) = false := by simp; omega
  by_cases hs : z < 0
  ·rw [decide_eq_true hs] at hb
   subst hb
   have HN := Lib.hid (cmpI_lt hs)
   clear hz hv HG hs h0
   go_wp2
   go_ret
   exact ⟨by rw [HN.out]; rfl, HF.out⟩
  ·rw [decide_eq_false hs] at hb
   subst hb
   have HN := Lib.hid (cmpI_gt (show 0 < z by omega))
   clear hz hv HG hs h0
   go_wp2
   go_ret
   exact ⟨by rw [HN.out]; rfl, HF.out⟩
set_option maxRecDepth 100000 in
set_option maxHeartbeats 1000000 in
theorem rneg_z' (an : Bool) (A : Option Addr) (n c : Nat) (z y : Int) (w : World) (h : ZK w an A n z) (hy : sg (!an) z.natAbs = y) :
  Calls Tryz.prog 96 #[.agg #[.bool an, .slice A n c]] w (RetZ w y) := by
 have hl := h.len
 have TO := Lib.hid (fun (W : World) (A1 : Option Addr) (n1 c1 : Nat) (h1 : HA W A1 n1 c1 z.natAbs) => of_any (!an) A1 n1 c1 z.natAbs W h1.ra (by rw [h1.1]; omega))
 rw [hy] at TO
 clear hy
 go_enter Tryz.func96, Tryz.ntmps96
 go_wp2_with fail
 obtain ⟨hB0, hB1, hBW, hsz⟩ := pre2 w 29 #[.bool an, .slice A n c] 29 #[.bool false, .slice none 0 0]
 generalize (w.alloc (.cells #[.bool an, .slice A n c] 29)).alloc (.cells #[.bool false, .slice none 0 0] 29) = W at *
 have HSZ := Lib.hid hsz
 clear hsz
 have T := Lib.hid (fun W' (hW : Below (w.heap.size + 1) W W') => ZK.halves (c := c) (h.below (hBW.trans (hW.mono (by omega)))))
 have s5 := RS.start hB1
 clear h hl
 have hS : ∀ w', RS (w.heap.size + 1) 29 W w' → (w'.cell? ⟨w.heap.size, 0, none⟩ = some (.bool an) ∧ w'.cell? ⟨w.heap.size, 1, none⟩ = some (.slice A n c)) ∧ RS (w.heap.size + 1) 29 W w' := fun w' hk => ⟨⟨(hk.blk hB0 (by omega)).cell 0, (hk.blk hB0 (by omega)).cell 1⟩, hk⟩
 have HS := Lib.hid hS
 clear hS
 go_region_held3 (fun w' => (w'.cell? ⟨w.heap.size, 0, none⟩ = some (.bool an) ∧ w'.cell? ⟨w.heap.size, 1, none⟩ = some (.slice A n c)) ∧ RS (w.heap.size + 1) 29 W w')
  (first | (with_reducible refine HS.out _ ?_; with_reducible assumption) | (with_reducible refine HS.out _ (RS.drew ?_); with_reducible assumption) | (with_reducible refine' HS.out _ (RS.drew (And.right ?_)); rotate_left; with_reducible assumption) | (with_reducible refine' HS.out _ (RS.set (And.right ?_) _ _); rotate_left; with_reducible assumption))
  (first
   | (go_at_call 97; have hk := And.right ‹_ ∧ RS (w.heap.size + 1) 29 W _›; refine (T.out _ hk.1).mono ?_; rintro e w1 ⟨A1, n1, c1, rfl, hI1, hb1⟩; have hr1 := hk.call hb1)
   | (go_at_call 125; have hk := And.right ‹_ ∧ RS (w.heap.size + 1) 29 W _›; refine (TO.out _ A1 n1 c1 hI1).mono ?_; rintro e w3 ⟨A3, k3, c3, rfl, hk3, hW3, hF3, hb3⟩; have hr3 := hr1.call hb3; obtain ⟨_, _, c0, c1, f0, f1⟩ := hr3.two))
 have hfin := retZ_close hBW (by omega) (by have := HSZ.out; have h9 := (RS.two hr1); obtain ⟨_, _, _, hx9⟩ := hr1; have h9 := hx9.lt; omega) hr3 hk3 hW3 hF3
 obtain ⟨d0, d1, -, -⟩ := (hr3.done (.bool (decide (y < 0))) (.slice A3 k3 c3)).two
 have HF := Lib.hid hfin
 clear hfin TO hI1 hb1 hb3
 go_wp2
 refine bodyPost_ret (v := .agg #[.bool (decide (y < 0)), .slice A3 k3 c3]) ?_ rfl HF.out
 simp [results, Tryz.results96, go_sem, d0, d1]
theorem rneg_z (an : Bool) (A : Option Addr) (n c : Nat) (z : Int) (w : World) (h : ZK w an A n z) :
  Calls Tryz.prog 96 #[.agg #[.bool an, .slice A n c]] w (RetZ w (-z)) := rneg_z' an A n c z _ w h (by rw [sg_flip, h.sg])
set_option maxHeartbeats 1000000 in
theorem rabs_z (an : Bool) (A : Option Addr) (n c : Nat) (z : Int) (w : World) (h : ZK w an A n z) :
  Calls Tryz.prog 127 #[.agg #[.bool an, .slice A n c]] w (RetZ w (z.natAbs : Int)) := by
 have hl := h.len
 have T := Lib.hid (fun W (hW : Below w.heap.size w W) => ZK.halves (c := c) (h.below hW))
 have TO := Lib.hid (fun (W : World) (A1 : Option Addr) (n1 c1 : Nat) (h1 : HA W A1 n1 c1 z.natAbs) => of_any false A1 n1 c1 z.natAbs W h1.ra (by rw [h1.1]; omega))
 simp only [show ∀ v : Nat, sg false v = (v : Int) from fun _ => rfl] at TO
 generalize hv : z.natAbs = v at *
 clear h hl hv
 go_enter Tryz.func127, Tryz.ntmps127
 go_wp2_with fail
 obtain ⟨hB0, hB1, hBW, hsz⟩ := pre2 w 29 #[.bool an, .slice A n c] 29 #[.bool false, .slice none 0 0]
 generalize (w.alloc (.cells #[.bool an, .slice A n c] 29)).alloc (.cells #[.bool false, .slice none 0 0] 29) = W at *
 have HSZ := Lib.hid hsz
 clear hsz
 refine (T.out _ hBW).mono ?_
 rintro e w1 ⟨A1, n1, c2, rfl, hI, hb1⟩
 have hr1 := (RS.start hB1).call hb1
 have HI := Lib.hid hI
 clear hI T hB0 hB1
 go_wp2_with fail
 refine (TO.out _ _ _ _ HI.out).mono ?_
 rintro e w3 ⟨A3, k3, c3, rfl, hk3, hW3, hF3, hb3⟩
 have hr3 := hr1.call hb3
 obtain ⟨_, _, c0, c1, f0, f1⟩ := hr3.two
 have hfin := retZ_close hBW (by omega) (by have := HSZ.out; have h9 := hb1.size; omega) hr3 hk3 hW3 hF3
 obtain ⟨d0, d1, -, -⟩ := (hr3.done (.bool (decide ((v : Int) < 0))) (.slice A3 k3 c3)).two
 have HF := Lib.hid hfin
 clear hfin TO HI hb1 hb3
 go_wp2
 refine bodyPost_ret (v := .agg #[.bool (decide ((v : Int) < 0)), .slice A3 k3 c3]) ?_ rfl HF.out
 simp [results, Tryz.results127, go_sem, d0, d1]
set_option maxRecDepth 100000 in
set_option maxHeartbeats 1000000 in
theorem rleast_z' (an : Bool) (A : Option Addr) (n c : Nat) (z y : Int) (w : World) (h : ZK w an A n z) (hy : sg (an) z.natAbs = y) :
  Calls Tryz.prog 81 #[.agg #[.bool an, .slice A n c]] w (RetZ w y) := by
 have hl := h.len
 have TO := Lib.hid (fun (W : World) (A1 : Option Addr) (n1 c1 : Nat) (h1 : HA W A1 n1 c1 z.natAbs) => of_any (an) A1 n1 c1 z.natAbs W h1.ra (by rw [h1.1]; omega))
 rw [hy] at TO
 clear hy
 go_enter Tryz.func81, Tryz.ntmps81
 go_wp2_with fail
 obtain ⟨hB0, hB1, hBW, hsz⟩ := pre2 w 29 #[.bool an, .slice A n c] 29 #[.bool false, .slice none 0 0]
 generalize (w.alloc (.cells #[.bool an, .slice A n c] 29)).alloc (.cells #[.bool false, .slice none 0 0] 29) = W at *
 have HSZ := Lib.hid hsz
 clear hsz
 have T := Lib.hid (fun W' (hW : Below (w.heap.size + 1) W W') => ZK.halves (c := c) (h.below (hBW.trans (hW.mono (by omega)))))
 have s5 := RS.start hB1
 clear h hl
 have hS : ∀ w', RS (w.heap.size + 1) 29 W w' → (w'.cell? ⟨w.heap.size, 0, none⟩ = some (.bool an) ∧ w'.cell? ⟨w.heap.size, 1, none⟩ = some (.slice A n c)) ∧ RS (w.heap.size + 1) 29 W w' := fun w' hk => ⟨⟨(hk.blk hB0 (by omega)).cell 0, (hk.blk hB0 (by omega)).cell 1⟩, hk⟩
 have HS := Lib.hid hS
 clear hS
 go_region_held3 (fun w' => (w'.cell? ⟨w.heap.size, 0, none⟩ = some (.bool an) ∧ w'.cell? ⟨w.heap.size, 1, none⟩ = some (.slice A n c)) ∧ RS (w.heap.size + 1) 29 W w')
  (first | (with_reducible refine HS.out _ ?_; with_reducible assumption) | (with_reducible refine HS.out _ (RS.drew ?_); with_reducible assumption) | (with_reducible refine' HS.out _ (RS.drew (And.right ?_)); rotate_left; with_reducible assumption) | (with_reducible refine' HS.out _ (RS.set (And.right ?_) _ _); rotate_left; with_reducible assumption))
  (first
   | (go_at_call 97; have hk := And.right ‹_ ∧ RS (w.heap.size + 1) 29 W _›; refine (T.out _ hk.1).mono ?_; rintro e w1 ⟨A1, n1, c1, rfl, hI1, hb1⟩; have hr1 := hk.call hb1)
   | (go_at_call 125; have hk := And.right ‹_ ∧ RS (w.heap.size + 1) 29 W _›; refine (TO.out _ A1 n1 c1 hI1).mono ?_; rintro e w3 ⟨A3, k3, c3, rfl, hk3, hW3, hF3, hb3⟩; have hr3 := hr1.call hb3; obtain ⟨_, _, c0, c1, f0, f1⟩ := hr3.two))
 have hfin := retZ_close hBW (by omega) (by have := HSZ.out; have h9 := (RS.two hr1); obtain ⟨_, _, _, hx9⟩ := hr1; have h9 := hx9.lt; omega) hr3 hk3 hW3 hF3
 obtain ⟨d0, d1, -, -⟩ := (hr3.done (.bool (decide (y < 0))) (.slice A3 k3 c3)).two
 have HF := Lib.hid hfin
 clear hfin TO hI1 hb1 hb3
 go_wp2
 refine bodyPost_ret (v := .agg #[.bool (decide (y < 0)), .slice A3 k3 c3]) ?_ rfl HF.out
 simp [results, Tryz.results81, go_sem, d0, d1]
theorem rleast_z (an : Bool) (A : Option Addr) (n c : Nat) (z : Int) (w : World) (h : ZK w an A n z) :
  Calls Tryz.prog 81 #[.agg #[.bool an, .slice A n c]] w (RetZ w (z)) := rleast_z' an A n c z _ w h (h.sg)

end Go.Proofs.YtodkhjihkkmplaaGreat

namespace Go.Proofs.YtodkhjihkkmplaaGreat
set_option linter.unusedVariables false
set_option linter.unusedSimpArgs false
open Go.RowKit
open Wd

/-- A natural number handed back. -/
def RetN (w : World) (v : Nat) (e : Ending) (w' : World) : Prop := ∃ A k c, e = .returned (.agg #[.bool false, .slice A k c]) ∧ k ≤ c ∧ Wat w' A k (digs v) ∧ Fresh w.heap.size w' A k ∧ Below w.heap.size w w'
theorem RetZ.toN {w : World} {v : Nat} {e : Ending} {w' : World} (h : RetZ w (v : Int) e w') : RetN w v e w' := by
 obtain ⟨A, k, c, h1, h2, h3, h4⟩ := h
 have : decide ((v : Int) < 0) = false := by simp
 rw [this] at h1
 exact ⟨A, k, c, h1, h2, h3, h4⟩
/-- The number that a slice reads as. -/
def readV (w : World) (t : Value) : Nat := match t with
 | .slice (some p) n _ => vh ((List.range n).map fun j => match w.cell? ⟨p.block, p.off + j, none⟩ with | some (.int _ z) => z | _ => 0)
 | _ => 0
theorem HA.read {w : World} {A : Option Addr} {n c v : Nat} (h : HA w A n c v) : readV w (.slice A n c) = v := by
 by_cases h0 : n = 0
 ·have hv := h.zero.1 h0
  subst h0
  subst hv
  cases A <;> rfl
 ·obtain ⟨b, o, rfl, hb, hc⟩ := h.ra.cells h0
  have hl := vh_list v n
  rw [Nat.mod_eq_of_lt h.ra.lt] at hl
  refine Eq.trans ?_ hl
  show vh _ = vh _
  congr 1
  apply List.map_congr_left
  intro j hj
  have := hc j (List.mem_range.1 hj)
  simp only [this]
theorem ZK.ta {w W : World} {an : Bool} {A : Option Addr} {n c : Nat} {z : Int} (h : ZK w an A n z) (hBW : Below w.heap.size w W) : ∀ W', Kp W W' → Calls Tryz.prog 97 #[.slice A n c] W' (RetH W' z.natAbs) := fun W' hW => ZK.halves (h.below (hBW.trans (Below.mono hW hBW.size)))
set_option maxRecDepth 100000 in
set_option maxHeartbeats 2000000 in
theorem gcd_z (an bn : Bool) (A B : Option Addr) (n c m d : Nat) (za zb : Int) (w : World) (h : ZK w an A n za) (h' : ZK w bn B m zb) :
  Calls Tryz.prog 121 #[.agg #[.bool an, .slice A n c], .agg #[.bool bn, .slice B m d]] w (RetN w (Nat.gcd za.natAbs zb.natAbs)) := by
 have HAB := Lib.hid (And.intro h.len h'.len)
 go_enter Tryz.func121, Tryz.ntmps121
 go_wp2_with fail
 obtain ⟨hB0, hB1, hB2, hBW, hsz⟩ := pre3 w 29 #[.bool an, .slice A n c] 29 #[.bool bn, .slice B m d] 29 #[.bool false, .slice none 0 0]
 generalize ((w.alloc (.cells #[.bool an, .slice A n c] 29)).alloc (.cells #[.bool bn, .slice B m d] 29)).alloc (.cells #[.bool false, .slice none 0 0] 29) = W at *
 have HSZ := Lib.hid hsz
 clear hsz
 have TA := Lib.hid (h.ta (c := c) hBW)
 have TB := Lib.hid (h'.ta (c := d) hBW)
 generalize za.natAbs = a at *
 generalize zb.natAbs = b at *
 clear h h'
 go_upto_region 1 with fail
 have hS : ∀ w', Kp W w' → (w'.cell? ⟨w.heap.size, 1, none⟩ = some (.slice A n c) ∧ w'.cell? ⟨w.heap.size + 1, 1, none⟩ = some (.slice B m d)) ∧ Kp W w' := fun w' hk => ⟨⟨(hk.blk hB0).cell 1, (hk.blk hB1).cell 1⟩, hk⟩
 have HS := Lib.hid hS
 have s5 := Kp.refl W
 clear hS
 go_cut [5, 6] (fun s t wx => ∃ A1 n1 c1 A2 n2 c2, s = .slice A1 n1 c1 ∧ t = .slice A2 n2 c2 ∧ Hid (Kp W wx ∧ HA wx A1 n1 c1 a ∧ HA wx A2 n2 c2 b))
 case first =>
  go_region_held3 (fun w' => (w'.cell? ⟨w.heap.size, 1, none⟩ = some (.slice A n c) ∧ w'.cell? ⟨w.heap.size + 1, 1, none⟩ = some (.slice B m d)) ∧ Kp W w')
   (first | (with_reducible refine HS.out _ ?_; with_reducible assumption) | (with_reducible refine HS.out _ (Kp.drew ?_); with_reducible assumption) | (with_reducible refine' HS.out _ (Kp.drew (And.right ?_)); rotate_left; with_reducible assumption))
   (first
    | (go_at_call_of 97 (Value.slice A n c); have hk := And.right ‹_ ∧ Kp W _›; refine (TA.out _ hk).mono ?_; rintro e v4 ⟨A4, n4, c4, rfl, hI4, hb4⟩; have hp4 := Kp.trans hk hb4; (try have hI5 := hI5.below hb4); clear hk)
    | (go_at_call_of 97 (Value.slice B m d); have hk := And.right ‹_ ∧ Kp W _›; refine (TB.out _ hk).mono ?_; rintro e v5 ⟨A5, n5, c5, rfl, hI5, hb5⟩; have hp5 := Kp.trans hk hb5; (try have hI4 := hI4.below hb5); clear hk))
  all_goals
   (try go_wp2_with fail)
   go_meet
   first
    | exact ⟨A4, n4, c4, A5, n5, c5, rfl, rfl, Lib.hid ⟨hp5, hI4, hI5⟩⟩
    | exact ⟨A4, n4, c4, A5, n5, c5, rfl, rfl, Lib.hid ⟨hp4, hI4, hI5⟩⟩
 case rest =>
  obtain ⟨A1, n1, c1, A2, n2, c2, rfl, rfl, HV⟩ := hcut
  generalize wc = V at *
  have HB2 := Lib.hid hB2
  have HBW := Lib.hid hBW
  clear TA TB HS s5 hB0 hB1 hB2 hBW
  go_wp2_with fail
  go_loopw [5, 6] (fun t5 t6 wr => ∃ A1 n1 c1 A2 n2 c2 x y, t5 = .slice A1 n1 c1 ∧ t6 = .slice A2 n2 c2 ∧ Hid (Kp W wr ∧ HA wr A1 n1 c1 x ∧ HA wr A2 n2 c2 y ∧ Nat.gcd x y = Nat.gcd a b ∧ (hd x).length ≤ 6000000000 ∧ (hd y).length ≤ 6000000000)) (fun _ t6 wr => readV wr t6)
  case atStart => exact ⟨A1, n1, c1, A2, n2, c2, a, b, rfl, rfl, Lib.hid ⟨HV.out.1, HV.out.2.1, HV.out.2.2, rfl, HAB.out.1, HAB.out.2⟩⟩
  case round =>
   clear HV
   obtain ⟨A1, n1, c1, A2, n2, c2, x, y, rfl, rfl, HX⟩ := hrel
   have hbx : n1 ≤ 6000000000 := by rw [HX.out.2.1.1]; exact HX.out.2.2.2.2.1
   have hby : n2 ≤ 6000000000 := by rw [HX.out.2.2.1.1]; exact HX.out.2.2.2.2.2
   by_cases hy0 : y = 0
   ·subst hy0
    have hn2 : n2 = 0 := HX.out.2.2.1.zero.2 rfl
    subst hn2
    have hg : x = Nat.gcd a b := by rw [← HX.out.2.2.2.1]; exact (Nat.gcd_zero_right x).symm
    have TO := Lib.hid (of_any false A1 n1 c1 x wr HX.out.2.1.ra (by omega))
    rw [hg] at TO
    simp only [show ∀ v : Nat, sg false v = (v : Int) from fun _ => rfl] at TO
    have hr1 := (RS.start HB2.out).call HX.out.1
    have hb1 : Below W.heap.size W wr := HX.out.1
    have hBW := HBW.out
    clear hg HX hby
    go_wp2_with fail
    refine TO.out.mono ?_
    rintro e w3 ⟨A3, k3, c3, rfl, hk3, hW3, hF3, hb3⟩
    have hr3 := hr1.call hb3
    obtain ⟨_, _, d0, d1, f0, f1⟩ := hr3.two
    have hfin := (retZ_close hBW (by omega) (by have := HSZ.out; have h9 := hb1.size; omega) hr3 hk3 hW3 hF3).toN
    simp only [show decide (((Nat.gcd a b : Nat) : Int) < 0) = false by simp] at *
    obtain ⟨d0, d1, -, -⟩ := (hr3.done (.bool false) (.slice A3 k3 c3)).two
    have HF := Lib.hid hfin
    clear hfin hb1 hb3 hW3 hF3 hr1 hr3 TO
    go_wp2
    refine bodyPost_ret (v := .agg #[.bool false, .slice A3 k3 c3]) ?_ rfl HF.out
    simp [results, Tryz.results121, go_sem, d0, d1]
   ·have hn2 : n2 ≠ 0 := fun h => hy0 (HX.out.2.2.1.zero.1 h)
    have e1 : decide ((0 : Int) < (n2 : Int)) = true := decide_eq_true (by omega)
    have e2 : decide (0 < n2) = true := decide_eq_true (by omega)
    have HR := Lib.hid HX.out.2.2.1.read
    have TD := Lib.hid (div_ra A1 A2 n1 c1 n2 c2 x y wr HX.out.2.1 HX.out.2.2.1 (Nat.pos_of_ne_zero hy0) (by omega) (by omega))
    have HY := Lib.hid hy0
    clear hy0 hn2 hbx hby
    go_wp2_with fail
    refine TD.out.mono ?_
    rintro e v7 ⟨A6, n6, c6, A7, n7, c7, rfl, h6, h7, hb7⟩
    have hyp := Nat.mod_lt x (Nat.pos_of_ne_zero HY.out)
    have HN := Lib.hid (show Kp W v7 ∧ HA v7 A2 n2 c2 y ∧ HA v7 A7 n7 c7 (x % y) ∧ Nat.gcd y (x % y) = Nat.gcd a b ∧ (hd y).length ≤ 6000000000 ∧ (hd (x % y)).length ≤ 6000000000 from ⟨Kp.trans HX.out.1 hb7, HX.out.2.2.1.below hb7, h7, by rw [← HX.out.2.2.2.1, Nat.gcd_comm y, ← Nat.gcd_rec, Nat.gcd_comm], HX.out.2.2.2.2.2, Nat.le_trans (hd_len_mono (Nat.le_of_lt hyp)) HX.out.2.2.2.2.2⟩)
    have HM := Lib.hid (show readV v7 (.slice A7 n7 c7) < readV wr (.slice A2 n2 c2) by rw [h7.read, HR.out]; exact hyp)
    clear h6 h7 hb7 hyp TD HR HX
    go_wp2
    go_roundw
    case rel => exact ⟨A2, n2, c2, A7, n7, c7, y, x % y, rfl, rfl, HN.out⟩
    case measure => exact HM.out

end Go.Proofs.YtodkhjihkkmplaaGreat
