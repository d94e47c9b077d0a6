/-
A merged stack is valid, and lies in memory as its levels. Merged stacks by their levels; levels laid anew. Plain law of merged stacks: rotated curves, one more curve, all of a stack. willing of package step, at any price. Long of layer 23: rationals larger than the statements consider. Plain law of StackAggregation; the argument of a statement that is a rational. The statements of layer 24: Long, stacked. No statement of the seat is proved here; no conditions beyond those of each theorem.
-/
import Derived.Test.YtjajigkacccdgaaGreatTdBE
import Derived.Test.YtjajigkacccdgaaGreatTdBN
import Derived.Test.YtjajigkacccdgaaGreatTdBK
import Derived.Test.YtjajigkacccdgaaGreatTdBI
namespace Go.Proofs.YtjajigkacccdgaaGreat
set_option linter.unusedVariables false
set_option linter.unusedSimpArgs false
open Go.RowKit
open Go.Sort (HoldsK)
open Wd

theorem flw_ltU {up : Bool} {v p : Int} (h : flw up v p = true) : St.ltU up v p := by
 unfold flw at h
 unfold St.ltU
 cases up <;> simp at h ⊢ <;> exact h
theorem chkFrom_mono {up : Bool} : ∀ {l : List (Int × Int)} {v : Int}, chkFrom up (some v) l = 0 → (∀ t ∈ l, St.ltU up v t.2) ∧ (l.map (·.2)).Pairwise (St.ltU up)
 | [], v, _ => ⟨by simp, by simp⟩
 | (q, p) :: r, v, h => by
  rw [chkFrom] at h
  split at h
  ·simp at h
  ·split at h
   ·rename_i hf
    obtain ⟨i1, i2⟩ := chkFrom_mono h
    have h1 := flw_ltU hf
    refine ⟨fun t ht => ?_, ?_⟩
    ·rcases List.mem_cons.1 ht with rfl | ht
     ·exact h1
     ·have h2 := i1 t ht
      unfold St.ltU at *
      split <;> rename_i hu <;> simp [hu] at h1 h2 <;> omega
    ·rw [List.map_cons, List.pairwise_cons]
     refine ⟨fun x hx => ?_, i2⟩
     obtain ⟨t, ht, rfl⟩ := List.mem_map.1 hx
     exact i1 t ht
   ·simp at h
theorem chk_mono {up : Bool} {l : List (Int × Int)} (h : chk up l = 0) : (l.map (·.2)).Pairwise (St.ltU up) := by
 have h2 := (chk_ok h).2.2.1
 match l, h2 with
 | [], _ => simp
 | (q, p) :: r, h2 =>
  rw [chkFrom] at h2
  split at h2
  ·simp at h2
  ·obtain ⟨i1, i2⟩ := chkFrom_mono h2
   rw [List.map_cons, List.pairwise_cons]
   refine ⟨fun x hx => ?_, i2⟩
   obtain ⟨t, ht, rfl⟩ := List.mem_map.1 hx
   exact i1 t ht

namespace St
/-- The quantity of a curve at price p. -/
def atP (l : List (Int × Int)) (p : Int) : Int :=
 match l with
 | [] => 0
 | s :: r => (if s.2 = p then s.1 else 0) + atP r p
theorem atP_none : ∀ {l : List (Int × Int)} {p : Int}, (∀ s ∈ l, s.2 ≠ p) → atP l p = 0
 | [], _, _ => rfl
 | s :: r, p, h => by rw [atP, if_neg (h s (List.mem_cons_self ..)), atP_none fun t ht => h t (List.mem_cons_of_mem _ ht)]; rfl
theorem atP_bd {up : Bool} : ∀ {l : List (Int × Int)} {p : Int}, (l.map (·.2)).Pairwise (ltU up) → (∀ s ∈ l, 1 ≤ s.1 ∧ s.1 ≤ 1000000) → 0 ≤ atP l p ∧ atP l p ≤ 1000000
 | [], _, _, _ => by simp [atP]
 | s :: r, p, hm, hb => by
  rw [List.map_cons, List.pairwise_cons] at hm
  have h1 := hb s (List.mem_cons_self ..)
  have ih := atP_bd (p := p) hm.2 fun t ht => hb t (List.mem_cons_of_mem _ ht)
  rw [atP]
  split
  ·rename_i e
   rw [atP_none fun t ht e2 => ?_]
   ·omega
   ·have := hm.1 t.2 (List.mem_map.2 ⟨t, ht, rfl⟩)
    rw [e, e2] at this
    exact ltU_irr this
  ·omega
theorem part_map (k : Nat) : ∀ (l : List (Int × Int)) (p : Int) (i : Nat), part (l.map fun s => (k, s.1, s.2)) p i = if k = i then atP l p else 0
 | [], p, i => by simp [part, atP]
 | s :: r, p, i => by
  rw [List.map_cons, part, part_map k r p i, atP]
  by_cases h : k = i
  ·simp [h]
  ·simp [h]
theorem part_tri : ∀ (ls : List (List (Int × Int))) (k : Nat) (p : Int) (i : Nat), part (tri k ls) p i = if k ≤ i then atP (ls[i - k]?.getD []) p else 0
 | [], k, p, i => by simp [tri, part, atP]
 | l :: ls, k, p, i => by
  rw [tri, part_app, part_map, part_tri ls (k + 1) p i]
  by_cases h : k = i
  ·subst h
   rw [if_pos rfl, if_neg (by omega), if_pos (Nat.le_refl _), Nat.sub_self]
   simp
  ·by_cases h2 : k ≤ i
   ·rw [if_neg h, if_pos (by omega), if_pos h2, show i - k = (i - (k + 1)) + 1 by omega, List.getElem?_cons_succ]
    omega
   ·rw [if_neg h, if_neg (by omega), if_neg h2]
    rfl
theorem qty_map (k : Nat) : ∀ (l : List (Int × Int)) (p : Int), qty (l.map fun s => (k, s.1, s.2)) p = atP l p
 | [], p => rfl
 | s :: r, p => by rw [List.map_cons, qty, qty_map k r p, atP]
theorem qty_tri : ∀ (ls : List (List (Int × Int))) (k : Nat) (p : Int), qty (tri k ls) p = sumI (ls.map fun l => atP l p)
 | [], _, _ => rfl
 | l :: ls, k, p => by rw [tri, qty_app, qty_map, qty_tri ls (k + 1) p, List.map_cons, sumI]
theorem parts_tri (ls : List (List (Int × Int))) (p : Int) : parts ls.length (tri 0 ls) p = ls.map fun l => atP l p := by
 refine ext_getD (by simp [parts]) fun i hi => ?_
 have hi' : i < ls.length := by simpa [parts] using hi
 rw [parts_get hi', part_tri, if_pos (Nat.zero_le _), Nat.sub_zero, List.getElem?_map, List.getElem?_eq_getElem hi']
 rfl
theorem qty_pos : ∀ {T : List Tr} {p : Int}, (∀ t ∈ T, 1 ≤ t.2.1) → (∃ t ∈ T, t.2.2 = p) → 1 ≤ qty T p
 | [], _, _, ⟨t, ht, _⟩ => by simp at ht
 | x :: T, p, h, ⟨t, ht, e⟩ => by
  have h1 := h x (List.mem_cons_self ..)
  have h0 : ∀ (S : List Tr), (∀ t ∈ S, 1 ≤ t.2.1) → 0 ≤ qty S p := by
   intro S
   induction S with
   | nil => intro _; simp [qty]
   | cons a S ih =>
    intro hS
    have a1 := hS a (List.mem_cons_self ..)
    have a2 := ih fun t ht => hS t (List.mem_cons_of_mem _ ht)
    rw [qty]
    split <;> omega
  rw [qty]
  rcases List.mem_cons.1 ht with rfl | ht
  ·rw [if_pos e]
   have := h0 T fun t ht => h t (List.mem_cons_of_mem _ ht)
   omega
  ·have := qty_pos (fun t ht => h t (List.mem_cons_of_mem _ ht)) ⟨t, ht, e⟩
   split <;> omega
end St

/-- The levels of the prices in D. -/
def lvOf (n : Nat) (T : List St.Tr) (D : List (Int × Nat)) : List St.Lv := D.map fun d => (d.1, St.qty T d.1, St.parts n T d.1)
theorem lvOf_is {up : Bool} {n : Nat} {T : List St.Tr} {D : List (Int × Nat)} (h1 : (D.map (·.1)).Pairwise (St.ltU up)) (h2 : (D.map (·.1)).Perm (St.pr T)) : St.IsLv up n T (lvOf n T D) := by
 have e : (lvOf n T D).map (·.1) = D.map (·.1) := by unfold lvOf; rw [List.map_map]; rfl
 refine ⟨by rw [e]; exact h1, fun p => ?_, fun x hx => ?_⟩
 ·rw [e, h2.mem_iff, St.mem_pr]
 ·obtain ⟨d, _, rfl⟩ := List.mem_map.1 hx
  exact ⟨rfl, rfl⟩
theorem lv_valid {up : Bool} {ls : List (List (Int × Int))} {lv : List St.Lv} (hc : (ckC up ls).2 = 0) (h : St.IsLv up ls.length (St.tri 0 ls) lv) : VL up ls.length lv := by
 obtain ⟨hn, hk, hg⟩ := ckC_good hc
 obtain ⟨h1, h2, h3⟩ := h
 have hb : ∀ l ∈ ls, ∀ s ∈ l, 1 ≤ s.1 ∧ s.1 ≤ 1000000 := fun l hl s hs => by
  have := (hg l hl).2 s hs
  unfold Bad at this
  omega
 have hpt : ∀ p, ∀ y ∈ ls.map (fun l => St.atP l p), 0 ≤ y ∧ y ≤ 1000000 := fun p y hy => by
  obtain ⟨l, hl, rfl⟩ := List.mem_map.1 hy
  exact St.atP_bd (chk_mono (hk l hl)) (hb l hl)
 have hex : ∀ x ∈ lv, ∃ t ∈ St.tri 0 ls, t.2.2 = x.1 := fun x hx => (h2 x.1).1 (List.mem_map.2 ⟨x, hx, rfl⟩)
 have hlen : lv.length ≤ 48 := by
  have hnd : (lv.map (·.1)).Nodup := h1.imp fun {a b} hab e => by subst e; exact St.ltU_irr hab
  have hsub := hnd.length_le_of_subset (l₂ := St.pr (St.tri 0 ls)) fun p hp => St.mem_pr.2 ((h2 p).1 hp)
  have a1 := St.pr_len (St.tri 0 ls)
  have a2 := St.tri_len ls 0 fun l hl => (hg l hl).1
  rw [List.length_map] at hsub
  omega
 refine ⟨hlen, fun h0 => ?_, hn, fun x hx => ?_, fun x hx => ?_, fun x hx => ?_, h1⟩
 ·cases lv with
  | nil => simp at h0
  | cons x lv =>
   obtain ⟨t, ht, _⟩ := hex x (List.mem_cons_self ..)
   obtain ⟨l, hl, _⟩ := St.tri_mem ht
   cases ls with
   | nil => simp at hl
   | cons _ _ => simp
 ·obtain ⟨t, ht, e⟩ := hex x hx
  obtain ⟨l, hl, hs, _⟩ := St.tri_mem ht
  have := (hg l hl).2 _ hs
  unfold Bad at this
  rw [← e]
  simp only at this
  omega
 ·rw [(h3 x hx).2, St.parts_tri]
  exact ⟨by simp, hpt x.1⟩
 ·rw [(h3 x hx).1, (h3 x hx).2, St.parts_tri, ← St.qty_tri ls 0 x.1]
  refine ⟨rfl, ?_⟩
  have := St.qty_pos (T := St.tri 0 ls) (p := x.1) (fun t ht => by
   obtain ⟨l, hl, hs, _⟩ := St.tri_mem ht
   exact (hb l hl _ hs).1) (hex x hx)
  omega
theorem LvO.at {base n : Nat} {w : World} {mg : Nat} {T : List St.Tr} {D : List (Int × Nat)} (h : LvO base n w mg T D) : LvAt w (some ⟨mg, 0, none⟩) D.length n (lvOf n T D) := by
 obtain ⟨h1, h2, h3, h4, h5⟩ := h
 refine ⟨by simp [lvOf], fun _ => ⟨mg, 0, rfl, h2, fun j hj => ?_⟩⟩
 have hd : D[j]?.getD (0, 0) ∈ D := getD_mem hj
 have eg : D.toArray[j]! = D[j]?.getD (0, 0) := by simp [hj, List.getElem?_eq_getElem hj]
 have el : (lvOf n T D)[j]?.getD Lv0 = ((D[j]?.getD (0, 0)).1, St.qty T (D[j]?.getD (0, 0)).1, St.parts n T (D[j]?.getD (0, 0)).1) := by
  unfold lvOf
  rw [List.getElem?_map, List.getElem?_eq_getElem hj]
  rfl
 have c0 := (h3.cell (i := j) (c := 0) (by simpa using hj) (by omega)).1
 have c1 := (h3.cell (i := j) (c := 1) (by simpa using hj) (by omega)).1
 have c2 := (h3.cell (i := j) (c := 2) (by simpa using hj) (by omega)).1
 rw [eg, Nat.zero_add] at c0 c1 c2
 rw [el, Nat.zero_add]
 exact ⟨_, _, ⟨c0, c1, c2⟩, (h4 _ hd).2.2.at (St.parts_len _ _ _)⟩

end Go.Proofs.YtjajigkacccdgaaGreat

namespace Go.Proofs.YtjajigkacccdgaaGreat
set_option linter.unusedVariables false
set_option linter.unusedSimpArgs false
open Go.RowKit
open Wd


theorem merge_offers_lv (A : Option Addr) (n c : Nat) (ls : List (List (Int × Int))) (lv : List St.Lv) (w : World) (h : CsAt w A n ls) (hs : ∀ l ∈ ls, l.length ≤ 1000000000000) (hc : (ckC true ls).2 = 0) (hl : St.IsLv true n (St.tri 0 ls) lv) :
  Calls Tryz.prog 16 #[.slice A n c] w fun e w' => ∃ mg cap, e = .returned (.tuple #[.slice (some ⟨mg, 0, none⟩) lv.length cap, .int .i64 0, .int .i64 0]) ∧ LvAt w' (some ⟨mg, 0, none⟩) lv.length n lv ∧ VL true n lv ∧ Below w.heap.size w w' := by
 refine (merge_offers_ok A n c ls w h hs hc).mono ?_
 rintro e w' ⟨D, mg, cap, rfl, h1, h2, h3, h4⟩
 have he : lvOf n (St.tri 0 ls) D = lv := (lvOf_is h1 h2).only hl
 have hlen : lv.length = D.length := by rw [← he]; simp [lvOf]
 refine ⟨mg, cap, by rw [hlen], ?_, ?_, h4⟩
 ·have := h3.at
  rw [he] at this
  rwa [hlen]
 ·have hn := h.1
  subst hn
  exact lv_valid hc hl

theorem merge_bids_lv (A : Option Addr) (n c : Nat) (ls : List (List (Int × Int))) (lv : List St.Lv) (w : World) (h : CsAt w A n ls) (hs : ∀ l ∈ ls, l.length ≤ 1000000000000) (hc : (ckC false ls).2 = 0) (hl : St.IsLv false n (St.tri 0 ls) lv) :
  Calls Tryz.prog 17 #[.slice A n c] w fun e w' => ∃ mg cap, e = .returned (.tuple #[.slice (some ⟨mg, 0, none⟩) lv.length cap, .int .i64 0, .int .i64 0]) ∧ LvAt w' (some ⟨mg, 0, none⟩) lv.length n lv ∧ VL false n lv ∧ Below w.heap.size w w' := by
 refine (merge_bids_ok A n c ls w h hs hc).mono ?_
 rintro e w' ⟨D, mg, cap, rfl, h1, h2, h3, h4⟩
 have he : lvOf n (St.tri 0 ls) D = lv := (lvOf_is h1 h2).only hl
 have hlen : lv.length = D.length := by rw [← he]; simp [lvOf]
 refine ⟨mg, cap, by rw [hlen], ?_, ?_, h4⟩
 ·have := h3.at
  rw [he] at this
  rwa [hlen]
 ·have hn := h.1
  subst hn
  exact lv_valid hc hl

theorem IsAt.lit {w : World} {g : Nat} {xs : List Int} {n : Nat} {cs : Array Value} (h : Blk w g 2 cs) (hc : cs = (xs.map (Value.int .i64)).toArray) (hl : xs.length = n) : IsAt w (some ⟨g, 0, none⟩) n xs := by
 subst hc
 exact IRow.at (show IRow w g xs from h) hl
theorem CsAt.two {w : World} {g : Nat} {t : TypeId} {A1 A2 : Option Addr} {n1 c1 n2 c2 : Nat} {l1 l2 : List (Int × Int)} (h : Blk w g t #[.slice A1 n1 c1, .slice A2 n2 c2]) (h1 : StAt w A1 n1 l1) (h2 : StAt w A2 n2 l2) : CsAt w (some ⟨g, 0, none⟩) 2 [l1, l2] := by
 refine ⟨rfl, fun _ => ⟨g, 0, rfl, h.lt, fun j hj => ?_⟩⟩
 obtain rfl | rfl : j = 0 ∨ j = 1 := by omega
 ·exact ⟨A1, n1, c1, h.cell 0, h1⟩
 ·exact ⟨A2, n2, c2, h.cell 1, h2⟩
theorem LvAt.two {w : World} {g n : Nat} {t : TypeId} {p1 q1 p2 q2 : Int} {A1 A2 : Option Addr} {c1 c2 : Nat} {x1 x2 : List Int} (h : Blk w g t #[.int .i64 p1, .int .i64 q1, .slice A1 n c1, .int .i64 p2, .int .i64 q2, .slice A2 n c2]) (h1 : IsAt w A1 n x1) (h2 : IsAt w A2 n x2) :
  LvAt w (some ⟨g, 0, none⟩) 2 n [(p1, q1, x1), (p2, q2, x2)] := by
 refine ⟨rfl, fun _ => ⟨g, 0, rfl, h.lt, fun j hj => ?_⟩⟩
 obtain rfl | rfl : j = 0 ∨ j = 1 := by omega
 ·exact ⟨A1, c1, ⟨h.cell 0, h.cell 1, h.cell 2⟩, h1⟩
 ·exact ⟨A2, c2, ⟨h.cell 3, h.cell 4, h.cell 5⟩, h2⟩
theorem LvAt.three {w : World} {g n : Nat} {t : TypeId} {p1 q1 p2 q2 p3 q3 : Int} {A1 A2 A3 : Option Addr} {c1 c2 c3 : Nat} {x1 x2 x3 : List Int} (h : Blk w g t #[.int .i64 p1, .int .i64 q1, .slice A1 n c1, .int .i64 p2, .int .i64 q2, .slice A2 n c2, .int .i64 p3, .int .i64 q3, .slice A3 n c3]) (h1 : IsAt w A1 n x1) (h2 : IsAt w A2 n x2) (h3 : IsAt w A3 n x3) :
  LvAt w (some ⟨g, 0, none⟩) 3 n [(p1, q1, x1), (p2, q2, x2), (p3, q3, x3)] := by
 refine ⟨rfl, fun _ => ⟨g, 0, rfl, h.lt, fun j hj => ?_⟩⟩
 obtain rfl | rfl | rfl : j = 0 ∨ j = 1 ∨ j = 2 := by omega
 ·exact ⟨A1, c1, ⟨h.cell 0, h.cell 1, h.cell 2⟩, h1⟩
 ·exact ⟨A2, c2, ⟨h.cell 3, h.cell 4, h.cell 5⟩, h2⟩
 ·exact ⟨A3, c3, ⟨h.cell 6, h.cell 7, h.cell 8⟩, h3⟩

def exO : List St.Lv := [(1, 5, [5, 0]), (2, 3, [0, 3]), (3, 7, [4, 3])]
def exB : List St.Lv := [(9, 7, [4, 3]), (2, 4, [4, 0])]
theorem exO_is : St.IsLv true 2 (St.tri 0 [[(5, 1), (4, 3)], [(3, 2), (3, 3)]]) exO := by
 refine ⟨by simp [exO, St.ltU], fun p => ?_, ?_⟩
 ·simp [exO, St.tri]
  omega
 ·intro x hx
  simp [exO] at hx
  rcases hx with rfl | rfl | rfl <;> decide
theorem exB_is : St.IsLv false 2 (St.tri 0 [[(4, 9), (4, 2)], [(3, 9)]]) exB := by
 refine ⟨by simp [exB, St.ltU], fun p => ?_, ?_⟩
 ·simp [exB, St.tri]
  omega
 ·intro x hx
  simp [exB] at hx
  rcases hx with rfl | rfl <;> decide
theorem exO_ck : (ckC true [[(5, 1), (4, 3)], [(3, 2), (3, 3)]]).2 = 0 := by decide
theorem exB_ck : (ckC false [[(4, 9), (4, 2)], [(3, 9)]]).2 = 0 := by decide
theorem exO_tot : totI exO = 15 := by decide
theorem exB_tot : totI exB = 11 := by decide
theorem exO_s10 : shAll exO 2 10 3 = [5, 5] := by decide
theorem exO_s12 : shAll exO 2 12 3 = [6, 6] := by decide
theorem exB_s5 : shAll exB 2 5 2 = [2, 3] := by decide
theorem exO_c10 : costI (lvQ exO) 10 3 = 17 := by decide
theorem exO_c12 : costI (lvQ exO) 12 3 = 23 := by decide
theorem exB_c5 : costI (lvQ exB) 5 2 = 45 := by decide
theorem prs_a : prs [5, 1, 4, 3] 2 = [(5, 1), (4, 3)] := rfl
theorem prs_b : prs [3, 2, 3, 3] 2 = [(3, 2), (3, 3)] := rfl
theorem prs_c : prs [4, 9, 4, 2] 2 = [(4, 9), (4, 2)] := rfl
theorem prs_d : prs [3, 9] 1 = [(3, 9)] := rfl
theorem fits_lit {xs : List Int} (h : ∀ x ∈ xs, -100 ≤ x ∧ x ≤ 100) : ∀ i : Nat, Fits (xs[i]?.getD 0) := fun i => by
 by_cases hi : i < xs.length
 ·have := h _ (getD_mem (d := 0) hi)
  unfold Fits
  omega
 ·rw [List.getElem?_eq_none (by omega)]
  unfold Fits
  simp

end Go.Proofs.YtjajigkacccdgaaGreat

namespace Go.Proofs.YtjajigkacccdgaaGreat
set_option linter.unusedVariables false
set_option linter.unusedSimpArgs false
open Go.RowKit
open Wd

theorem sumI_app : ∀ (xs ys : List Int), sumI (xs ++ ys) = sumI xs + sumI ys
 | [], ys => by simp [sumI]
 | x :: xs, ys => by rw [List.cons_append, sumI, sumI, sumI_app xs ys]; omega
theorem sumI_zero : ∀ {xs : List Int}, (∀ x ∈ xs, x = 0) → sumI xs = 0
 | [], _ => rfl
 | x :: xs, h => by rw [sumI, h x (List.mem_cons_self ..), sumI_zero fun y hy => h y (List.mem_cons_of_mem _ hy)]; rfl
theorem sumI_map_add {α : Type} (f g : α → Int) : ∀ l : List α, sumI (l.map fun x => f x + g x) = sumI (l.map f) + sumI (l.map g)
 | [] => rfl
 | x :: l => by rw [List.map_cons, sumI, sumI_map_add f g l, List.map_cons, sumI, List.map_cons, sumI]; omega
/-- One price among others that differ. -/
theorem sumI_one {α : Type} (key : α → Int) (q : Int) : ∀ {l : List α} {p : Int}, (l.map key).Nodup → p ∈ l.map key → sumI (l.map fun x => if p = key x then q else 0) = q
 | [], _, _, h => by simp at h
 | x :: l, p, hn, h => by
  rw [List.map_cons, List.nodup_cons] at hn
  rw [List.map_cons, sumI]
  by_cases e : p = key x
  ·rw [if_pos e, sumI_zero]
   ·omega
   ·intro y hy
    obtain ⟨z, hz, rfl⟩ := List.mem_map.1 hy
    exact if_neg fun e2 => hn.1 (List.mem_map.2 ⟨z, hz, by rw [← e2, e]⟩)
  ·rw [if_neg e]
   rw [List.map_cons] at h
   rcases List.mem_cons.1 h with h | h
   ·exact absurd h e
   ·rw [sumI_one key q hn.2 h]; omega







theorem ckF_zero {up : Bool} : ∀ {ls : List (List (Int × Int))} {k : Nat}, (∀ l ∈ ls, chk up l = 0) → (ckF up k ls).2 = 0
 | [], _, _ => rfl
 | x :: ls, k, h => by
  rw [ckF, if_neg (by rw [h x (List.mem_cons_self ..)]; simp)]
  exact ckF_zero fun l hl => h l (List.mem_cons_of_mem _ hl)
namespace St
theorem tri_price : ∀ {ls : List (List (Int × Int))} {k : Nat} {p : Int}, (∃ t ∈ tri k ls, t.2.2 = p) ↔ ∃ l ∈ ls, ∃ s ∈ l, s.2 = p
 | [], _, _ => by simp [tri]
 | l :: ls, k, p => by
  have ih := tri_price (ls := ls) (k := k + 1) (p := p)
  constructor
  ·rintro ⟨t, ht, e⟩
   rw [tri, List.mem_append] at ht
   rcases ht with ht | ht
   ·obtain ⟨s, hs, rfl⟩ := List.mem_map.1 ht
    exact ⟨l, List.mem_cons_self .., s, hs, e⟩
   ·obtain ⟨l', hl', r⟩ := ih.1 ⟨t, ht, e⟩
    exact ⟨l', List.mem_cons_of_mem _ hl', r⟩
  ·rintro ⟨l', hl', s, hs, e⟩
   rcases List.mem_cons.1 hl' with rfl | hl'
   ·exact ⟨(k, s.1, s.2), by rw [tri, List.mem_append]; exact Or.inl (List.mem_map.2 ⟨s, hs, rfl⟩), e⟩
   ·obtain ⟨t, ht, e2⟩ := ih.2 ⟨l', hl', s, hs, e⟩
    exact ⟨t, by rw [tri, List.mem_append]; exact Or.inr ht, e2⟩
theorem IsLv.nodup {up : Bool} {n : Nat} {T : List Tr} {lv : List Lv} (h : IsLv up n T lv) : (lv.map (·.1)).Nodup := h.1.imp fun {a b} hab e => by subst e; exact ltU_irr hab














end St
end Go.Proofs.YtjajigkacccdgaaGreat
namespace Go.Proofs.YtjajigkacccdgaaGreat
set_option linter.unusedVariables false
set_option linter.unusedSimpArgs false
open Go.RowKit
open Wd
/-- A rational in any form, of any size. -/
def QArg (w : World) (an : Bool) (aA : Option Addr) (ak ac : Nat) (an' : Bool) (aA' : Option Addr) (ak' ac' : Nat) (q : Rat) : Prop := ∃ Nn Nd, QAt Nn Nd w an aA ak ac an' aA' ak' ac' q
theorem QArg.below {w w' : World} {an an' : Bool} {aA aA' : Option Addr} {ak ac ak' ac' : Nat} {q : Rat} (h : QArg w an aA ak ac an' aA' ak' ac' q) (hb : Below w.heap.size w w') : QArg w' an aA ak ac an' aA' ak' ac' q := by
 obtain ⟨Nn, Nd, h⟩ := h
 exact ⟨Nn, Nd, h.below hb⟩
theorem QAt.more {Nn Nd Mn Md : Nat} {w : World} {an an' : Bool} {aA aA' : Option Addr} {ak ac ak' ac' : Nat} {q : Rat} (h : QAt Nn Nd w an aA ak ac an' aA' ak' ac' q) (hn : Nn ≤ Mn) (hd : Nd ≤ Md) : QAt Mn Md w an aA ak ac an' aA' ak' ac' q := by
 obtain ⟨na, da, h1, h2, h3, h4⟩ := h
 exact ⟨na, da, h1, by omega, by omega, h4⟩
theorem qcmp_arg (an an' bn bn' : Bool) (aA aA' bA bA' : Option Addr) (ak ac ak' ac' bk bc bk' bc' : Nat) (qa qb : Rat) (w : World) (ha : QArg w an aA ak ac an' aA' ak' ac' qa) (hb : QArg w bn bA bk bc bn' bA' bk' bc' qb) :
  Calls Tryz.prog 43 #[.agg #[.bool an, .slice aA ak ac, .bool an', .slice aA' ak' ac'], .agg #[.bool bn, .slice bA bk bc, .bool bn', .slice bA' bk' bc']] w fun e w' => e = .returned (.int .i64 (cmpQ qa qb)) ∧ Below w.heap.size w w' := by
 obtain ⟨N1, D1, h1⟩ := ha
 obtain ⟨N2, D2, h2⟩ := hb
 exact qcmp_any an an' bn bn' aA aA' bA bA' ak ac ak' ac' bk bc bk' bc' qa qb w (h1.more (Mn := max N1 N2) (Md := max D1 D2) (by omega) (by omega)) (h2.more (by omega) (by omega))
theorem WQ.arg {w : World} {z : Int} {A A' : Option Addr} {k c k' c' : Nat} (h : WQ w (z : Rat) A k c A' k' c') (hz : z.natAbs < 1000000000000) : QArg w (decide (((z : Int) : Rat).num < 0)) A k c false A' k' c' (z : Rat) :=
 ⟨_, _, h.at (by rw [Rat.num_intCast]; omega) (by rw [Rat.den_intCast]; omega)⟩

/-- The quantities on one side of a price, without and with those at it. -/
def wlL (side : Int) (q : Rat) (l : List (Int × Int)) : Int := sumI (l.map fun s => if cmpQ (s.2 : Rat) q = side then s.1 else 0)
def wlM (side : Int) (q : Rat) (l : List (Int × Int)) : Int := sumI (l.map fun s => if cmpQ (s.2 : Rat) q = side ∨ cmpQ (s.2 : Rat) q = 0 then s.1 else 0)





end Go.Proofs.YtjajigkacccdgaaGreat
namespace Go.Proofs.YtjajigkacccdgaaGreat
set_option linter.unusedVariables false
set_option linter.unusedSimpArgs false
open Go.RowKit
open Wd
/-- The cells of a rational. -/
abbrev QE := Bool × (Option Addr × Nat × Nat) × Bool × (Option Addr × Nat × Nat)
abbrev QE0 : QE := (false, (none, 0, 0), false, (none, 0, 0))
def QsAtR (w : World) (A : Option Addr) (m : Nat) (es : List QE) : Prop :=
 es.length = m ∧ (m ≠ 0 → ∃ b o, A = some ⟨b, o, none⟩ ∧ b < w.heap.size ∧ ∀ j, j < m → w.cell? ⟨b, o + j * 4, none⟩ = some (.bool (es[j]?.getD QE0).1) ∧ w.cell? ⟨b, o + j * 4 + 1, none⟩ = some (.slice (es[j]?.getD QE0).2.1.1 (es[j]?.getD QE0).2.1.2.1 (es[j]?.getD QE0).2.1.2.2) ∧
  w.cell? ⟨b, o + j * 4 + 2, none⟩ = some (.bool (es[j]?.getD QE0).2.2.1) ∧ w.cell? ⟨b, o + j * 4 + 3, none⟩ = some (.slice (es[j]?.getD QE0).2.2.2.1 (es[j]?.getD QE0).2.2.2.2.1 (es[j]?.getD QE0).2.2.2.2.2))
theorem QsAtR.below {w w' : World} {A : Option Addr} {m : Nat} {es : List QE} (h : QsAtR w A m es) (hb : Below w.heap.size w w') : QsAtR w' A m es := by
 refine ⟨h.1, fun hn => ?_⟩
 obtain ⟨b, o, rfl, hlt, hc⟩ := h.2 hn
 exact ⟨b, o, rfl, Nat.lt_of_lt_of_le hlt hb.size, fun j hj => ⟨(hb.cell hlt).trans (hc j hj).1, (hb.cell hlt).trans (hc j hj).2.1, (hb.cell hlt).trans (hc j hj).2.2.1, (hb.cell hlt).trans (hc j hj).2.2.2⟩⟩

def bigQ (e : QE) : Bool := decide (6 < e.2.1.2.1) || decide (6 < e.2.2.2.2.1)


/-- A rational as an argument: whatever its words are. -/
def QRaw (w : World) (A : Option Addr) (n c : Nat) (A' : Option Addr) (n' c' : Nat) : Prop := ∃ l l', Wat w A n l ∧ Wat w A' n' l' ∧ n ≤ c ∧ n' ≤ c'
theorem QRaw.arg {w : World} {A A' : Option Addr} {n c n' c' : Nat} (h : QRaw w A n c A' n' c') (an an' : Bool) (hn : n ≤ 10000000000) (hn' : n' ≤ 10000000000) : ∃ q, QArg w an A n c an' A' n' c' q := by
 obtain ⟨l, l', h1, h2, h3, h4⟩ := h
 exact ⟨_, (qnum (sg an (val l)) (sg an' (val l'))).natAbs + 1, (qden (sg an' (val l'))).natAbs + 1, _, _, ⟨l, l', h1, h2, h3, h4, hn, hn', rfl, rfl⟩, Nat.lt_succ_self _, Nat.lt_succ_self _, rfl⟩

end Go.Proofs.YtjajigkacccdgaaGreat
namespace Go.Proofs.YtjajigkacccdgaaGreat
set_option linter.unusedVariables false
set_option linter.unusedSimpArgs false
open Go.RowKit
open Wd
namespace St
theorem sum_pricesF (f : Int → Bool) : ∀ {T : List Tr} {ps : List Int}, ps.Nodup → (∀ t ∈ T, t.2.2 ∈ ps) → sumI (ps.map fun p => if f p then qty T p else 0) = sumI (T.map fun t => if f t.2.2 then t.2.1 else 0)
 | [], ps, _, _ => by
  refine (sumI_zero fun y hy => ?_)
  obtain ⟨x, _, rfl⟩ := List.mem_map.1 hy
  split <;> rfl
 | t :: T, ps, hn, h => by
  have ih := sum_pricesF f hn fun s hs => h s (List.mem_cons_of_mem _ hs)
  have e : (ps.map fun p => if f p then qty (t :: T) p else 0) = ps.map fun p => (if t.2.2 = p then (if f t.2.2 then t.2.1 else 0) else 0) + (if f p then qty T p else 0) := by
   refine List.map_congr_left fun p _ => ?_
   rw [qty]
   by_cases hp : t.2.2 = p
   ·subst hp
    cases f t.2.2 <;> simp
   ·rw [if_neg hp, if_neg hp]
    split <;> omega
  rw [e, sumI_map_add (fun p => if t.2.2 = p then (if f t.2.2 then t.2.1 else 0) else 0) (fun p => if f p then qty T p else 0), ih]
  have := sumI_one (fun p : Int => p) (if f t.2.2 then t.2.1 else 0) (l := ps) (p := t.2.2) (by simpa using hn) (by simpa using h t (List.mem_cons_self ..))
  rw [this, List.map_cons, sumI]
theorem sumF_tri (f : Int → Bool) : ∀ (ls : List (List (Int × Int))) (k : Nat), sumI ((tri k ls).map fun t => if f t.2.2 then t.2.1 else 0) = sumI (ls.map fun l => sumI (l.map fun s => if f s.2 then s.1 else 0))
 | [], _ => rfl
 | l :: ls, k => by
  rw [tri, List.map_append, sumI_app, sumF_tri f ls (k + 1), List.map_cons, sumI, List.map_map]
  rfl
theorem sumF_lv (f : Int → Bool) {up : Bool} {n : Nat} {ls : List (List (Int × Int))} {lv : List Lv} (h : IsLv up n (tri 0 ls) lv) : sumI (lv.map fun x => if f x.1 then x.2.1 else 0) = sumI (ls.map fun l => sumI (l.map fun s => if f s.2 then s.1 else 0)) := by
 have e : (lv.map fun x => if f x.1 then x.2.1 else 0) = (lv.map (·.1)).map fun p => if f p then qty (tri 0 ls) p else 0 := by
  rw [List.map_map]
  refine List.map_congr_left fun x hx => ?_
  simp only [Function.comp]
  rw [(h.2.2 x hx).1]
 rw [e, sum_pricesF f h.nodup fun t ht => (h.2.1 t.2.2).2 ⟨t, ht, rfl⟩, sumF_tri]
end St
/-- What the levels hold on one side of a price, without and with the level at it. -/
def lvL (side : Int) (q : Rat) (lv : List St.Lv) : Int := sumI (lv.map fun x => if cmpQ (x.1 : Rat) q = side then x.2.1 else 0)
def lvM (side : Int) (q : Rat) (lv : List St.Lv) : Int := sumI (lv.map fun x => if cmpQ (x.1 : Rat) q = side ∨ cmpQ (x.1 : Rat) q = 0 then x.2.1 else 0)
theorem agg_lv {side : Int} {q : Rat} {up : Bool} {n : Nat} {ls : List (List (Int × Int))} {lv : List St.Lv} (h : St.IsLv up n (St.tri 0 ls) lv) : lvL side q lv = sumI (ls.map (wlL side q)) ∧ lvM side q lv = sumI (ls.map (wlM side q)) := by
 have h1 := St.sumF_lv (fun p => decide (cmpQ (p : Rat) q = side)) h
 have h2 := St.sumF_lv (fun p => decide (cmpQ (p : Rat) q = side ∨ cmpQ (p : Rat) q = 0)) h
 simp only [decide_eq_true_eq] at h1 h2
 exact ⟨h1, h2⟩






end Go.Proofs.YtjajigkacccdgaaGreat
namespace Go.Proofs.YtjajigkacccdgaaGreat
set_option linter.unusedVariables false
set_option linter.unusedSimpArgs false
open Go.RowKit
open Wd
def longC (ls : List (List (Int × Int))) : Bool := decide (40 < ls.length) || ls.any fun l => decide (20 < l.length)

set_option maxRecDepth 100000 in
set_option maxHeartbeats 1000000 in
theorem long24_any (A : Option Addr) (n c : Nat) (ls : List (List (Int × Int))) (w : World) (h : CsAt w A n ls) :
  Calls Tryz.prog 12 #[.slice A n c] w fun e w' => e = .returned (.bool (longC ls)) ∧ Below w.heap.size w w' := by
 have HX := Lib.hid h
 have HLN := Lib.hid h.1
 by_cases h40 : 40 < n
 ·have d1 : decide ((40 : Int) < (n : Int)) = true := by simp; omega
  have HE : Hid (longC ls = true) := by
   show longC ls = true
   unfold longC
   rw [h.1]
   simp [h40]
  clear h
  go_enter Tryz.func12, Tryz.ntmps12
  go_wp2
  go_ret
  exact ⟨by rw [HE.out]; rfl, Below.refl _ _⟩
 ·have d1 : decide ((40 : Int) < (n : Int)) = false := by simp; omega
  have HE : Hid (longC ls = ls.any fun l => decide (20 < l.length)) := by
   show longC ls = _
   unfold longC
   rw [h.1]
   simp [h40]
  clear h
  go_enter Tryz.func12, Tryz.ntmps12
  go_wp2_with fail
  go_loopw [3] (fun t wr => ∃ k : Nat, k ≤ n ∧ t = .int .i64 k ∧ Hid (Below w.heap.size w wr ∧ (ls.take k).any (fun l => decide (20 < l.length)) = false)) (fun t _ => n - (intOf t).toNat)
  case atStart => exact ⟨0, Nat.zero_le _, rfl, Below.refl _ _, by simp⟩
  case round =>
   obtain ⟨k, hk, rfl, hR⟩ := hrel
   by_cases hlt : k < n
   ·obtain ⟨b, o, rfl, hb, hc⟩ := HX.out.2 (by omega)
    obtain ⟨A', n', c', hcell, hst⟩ := hc k hlt
    have hcell := (hR.out.1.cell (p := ⟨b, o + k, none⟩) hb).trans hcell
    have hl : (ls[k]?.getD []).length = n' := hst.1
    have hkl : k < ls.length := by rw [HLN.out]; exact hlt
    have htk : ls.take (k + 1) = ls.take k ++ [ls[k]?.getD []] := by rw [List.take_add_one, List.getElem?_eq_getElem hkl]; rfl
    have hany : (ls.take (k + 1)).any (fun l => decide (20 < l.length)) = decide (20 < n') := by rw [htk, List.any_append, hR.out.2]; simp [hl]
    have i1 : (0 : Int) ≤ (k : Int) := by omega
    have i2 : (k : Int) < (n : Int) := by omega
    have HB := Lib.hid hR.out.1
    have HA := Lib.hid hany
    by_cases h20 : 20 < n'
    ·have d2 : decide ((20 : Int) < (n' : Int)) = true := by simp; omega
     have HT : Hid (longC ls = true) := by
      show longC ls = true
      rw [HE.out]
      have := HA.out
      rw [decide_eq_true h20, List.any_eq_true] at this
      obtain ⟨x, hx, hx2⟩ := this
      exact List.any_eq_true.2 ⟨x, List.mem_of_mem_take hx, hx2⟩
     clear hR hst hc hl htk hany
     go_wp2
     go_ret
     exact ⟨by rw [HT.out]; rfl, HB.out⟩
    ·have d2 : decide ((20 : Int) < (n' : Int)) = false := by simp; omega
     have HF : Hid ((ls.take (k + 1)).any (fun l => decide (20 < l.length)) = false) := by
      show _ = _
      rw [HA.out]
      simp [h20]
     clear hR hst hc hl htk hany
     go_wp2
     go_roundw
     case rel => exact ⟨k + 1, by omega, by go_num, HB.out, HF.out⟩
     case measure => simp [intOf]; omega
   ·obtain rfl : k = n := by omega
    have HT : Hid (longC ls = false) := by
     show longC ls = false
     rw [HE.out]
     have := hR.out.2
     rwa [List.take_of_length_le (by rw [HLN.out]; omega)] at this
    have HB := Lib.hid hR.out.1
    clear hR
    go_wp2
    go_ret
    exact ⟨by rw [HT.out]; rfl, HB.out⟩

end Go.Proofs.YtjajigkacccdgaaGreat