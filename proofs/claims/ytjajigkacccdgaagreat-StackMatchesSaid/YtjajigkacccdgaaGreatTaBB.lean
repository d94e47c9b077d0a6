/-
A merged stack is valid, and lies in memory as its levels. Contract of Floor of package frac at whole numbers, and WOK at 2^62. Rows of rationals in memory; what Allocate of package step computes. Allocate of package step at a valid curve and a quantity that fits it. No statement of the seat is proved here; no conditions beyond those of each theorem.
-/
import Derived.Test.YtjajigkacccdgaaGreatTaBA
import Derived.Test.YtjajigkacccdgaaGreatTaAT
import Derived.Test.YtjajigkacccdgaaGreatTaAU
namespace Go.Proofs.YtjajigkacccdgaaGreat
set_option linter.unusedVariables false
set_option linter.unusedSimpArgs false
open Go.RowKit
open Go.Sort (HoldsK)
open Wd

theorem flw_ltU {up : Bool} {v p : Int} (h : flw up v p = true) : St.ltU up v p := by
 unfold flw at h
 unfold St.ltU
 cases up <;> simp at h ⊢ <;> exact h
theorem chkFrom_mono {up : Bool} : ∀ {l : List (Int × Int)} {v : Int}, chkFrom up (some v) l = 0 → (∀ t ∈ l, St.ltU up v t.2) ∧ (l.map (·.2)).Pairwise (St.ltU up)
 | [], v, _ => ⟨by simp, by simp⟩
 | (q, p) :: r, v, h => by
  rw [chkFrom] at h
  split at h
  ·simp at h
  ·split at h
   ·rename_i hf
    obtain ⟨i1, i2⟩ := chkFrom_mono h
    have h1 := flw_ltU hf
    refine ⟨fun t ht => ?_, ?_⟩
    ·rcases List.mem_cons.1 ht with rfl | ht
     ·exact h1
     ·have h2 := i1 t ht
      unfold St.ltU at *
      split <;> rename_i hu <;> simp [hu] at h1 h2 <;> omega
    ·rw [List.map_cons, List.pairwise_cons]
     refine ⟨fun x hx => ?_, i2⟩
     obtain ⟨t, ht, rfl⟩ := List.mem_map.1 hx
     exact i1 t ht
   ·simp at h
theorem chk_mono {up : Bool} {l : List (Int × Int)} (h : chk up l = 0) : (l.map (·.2)).Pairwise (St.ltU up) := by
 have h2 := (chk_ok h).2.2.1
 match l, h2 with
 | [], _ => simp
 | (q, p) :: r, h2 =>
  rw [chkFrom] at h2
  split at h2
  ·simp at h2
  ·obtain ⟨i1, i2⟩ := chkFrom_mono h2
   rw [List.map_cons, List.pairwise_cons]
   refine ⟨fun x hx => ?_, i2⟩
   obtain ⟨t, ht, rfl⟩ := List.mem_map.1 hx
   exact i1 t ht

namespace St
/-- The quantity of a curve at price p. -/
def atP (l : List (Int × Int)) (p : Int) : Int :=
 match l with
 | [] => 0
 | s :: r => (if s.2 = p then s.1 else 0) + atP r p
theorem atP_none : ∀ {l : List (Int × Int)} {p : Int}, (∀ s ∈ l, s.2 ≠ p) → atP l p = 0
 | [], _, _ => rfl
 | s :: r, p, h => by rw [atP, if_neg (h s (List.mem_cons_self ..)), atP_none fun t ht => h t (List.mem_cons_of_mem _ ht)]; rfl
theorem atP_bd {up : Bool} : ∀ {l : List (Int × Int)} {p : Int}, (l.map (·.2)).Pairwise (ltU up) → (∀ s ∈ l, 1 ≤ s.1 ∧ s.1 ≤ 1000000) → 0 ≤ atP l p ∧ atP l p ≤ 1000000
 | [], _, _, _ => by simp [atP]
 | s :: r, p, hm, hb => by
  rw [List.map_cons, List.pairwise_cons] at hm
  have h1 := hb s (List.mem_cons_self ..)
  have ih := atP_bd (p := p) hm.2 fun t ht => hb t (List.mem_cons_of_mem _ ht)
  rw [atP]
  split
  ·rename_i e
   rw [atP_none fun t ht e2 => ?_]
   ·omega
   ·have := hm.1 t.2 (List.mem_map.2 ⟨t, ht, rfl⟩)
    rw [e, e2] at this
    exact ltU_irr this
  ·omega
theorem part_map (k : Nat) : ∀ (l : List (Int × Int)) (p : Int) (i : Nat), part (l.map fun s => (k, s.1, s.2)) p i = if k = i then atP l p else 0
 | [], p, i => by simp [part, atP]
 | s :: r, p, i => by
  rw [List.map_cons, part, part_map k r p i, atP]
  by_cases h : k = i
  ·simp [h]
  ·simp [h]
theorem part_tri : ∀ (ls : List (List (Int × Int))) (k : Nat) (p : Int) (i : Nat), part (tri k ls) p i = if k ≤ i then atP (ls[i - k]?.getD []) p else 0
 | [], k, p, i => by simp [tri, part, atP]
 | l :: ls, k, p, i => by
  rw [tri, part_app, part_map, part_tri ls (k + 1) p i]
  by_cases h : k = i
  ·subst h
   rw [if_pos rfl, if_neg (by omega), if_pos (Nat.le_refl _), Nat.sub_self]
   simp
  ·by_cases h2 : k ≤ i
   ·rw [if_neg h, if_pos (by omega), if_pos h2, show i - k = (i - (k + 1)) + 1 by omega, List.getElem?_cons_succ]
    omega
   ·rw [if_neg h, if_neg (by omega), if_neg h2]
    rfl
theorem qty_map (k : Nat) : ∀ (l : List (Int × Int)) (p : Int), qty (l.map fun s => (k, s.1, s.2)) p = atP l p
 | [], p => rfl
 | s :: r, p => by rw [List.map_cons, qty, qty_map k r p, atP]
theorem qty_tri : ∀ (ls : List (List (Int × Int))) (k : Nat) (p : Int), qty (tri k ls) p = sumI (ls.map fun l => atP l p)
 | [], _, _ => rfl
 | l :: ls, k, p => by rw [tri, qty_app, qty_map, qty_tri ls (k + 1) p, List.map_cons, sumI]
theorem parts_tri (ls : List (List (Int × Int))) (p : Int) : parts ls.length (tri 0 ls) p = ls.map fun l => atP l p := by
 refine ext_getD (by simp [parts]) fun i hi => ?_
 have hi' : i < ls.length := by simpa [parts] using hi
 rw [parts_get hi', part_tri, if_pos (Nat.zero_le _), Nat.sub_zero, List.getElem?_map, List.getElem?_eq_getElem hi']
 rfl
theorem qty_pos : ∀ {T : List Tr} {p : Int}, (∀ t ∈ T, 1 ≤ t.2.1) → (∃ t ∈ T, t.2.2 = p) → 1 ≤ qty T p
 | [], _, _, ⟨t, ht, _⟩ => by simp at ht
 | x :: T, p, h, ⟨t, ht, e⟩ => by
  have h1 := h x (List.mem_cons_self ..)
  have h0 : ∀ (S : List Tr), (∀ t ∈ S, 1 ≤ t.2.1) → 0 ≤ qty S p := by
   intro S
   induction S with
   | nil => intro _; simp [qty]
   | cons a S ih =>
    intro hS
    have a1 := hS a (List.mem_cons_self ..)
    have a2 := ih fun t ht => hS t (List.mem_cons_of_mem _ ht)
    rw [qty]
    split <;> omega
  rw [qty]
  rcases List.mem_cons.1 ht with rfl | ht
  ·rw [if_pos e]
   have := h0 T fun t ht => h t (List.mem_cons_of_mem _ ht)
   omega
  ·have := qty_pos (fun t ht => h t (List.mem_cons_of_mem _ ht)) ⟨t, ht, e⟩
   split <;> omega
end St

/-- The levels of the prices in D. -/
def lvOf (n : Nat) (T : List St.Tr) (D : List (Int × Nat)) : List St.Lv := D.map fun d => (d.1, St.qty T d.1, St.parts n T d.1)
theorem lvOf_is {up : Bool} {n : Nat} {T : List St.Tr} {D : List (Int × Nat)} (h1 : (D.map (·.1)).Pairwise (St.ltU up)) (h2 : (D.map (·.1)).Perm (St.pr T)) : St.IsLv up n T (lvOf n T D) := by
 have e : (lvOf n T D).map (·.1) = D.map (·.1) := by unfold lvOf; rw [List.map_map]; rfl
 refine ⟨by rw [e]; exact h1, fun p => ?_, fun x hx => ?_⟩
 ·rw [e, h2.mem_iff, St.mem_pr]
 ·obtain ⟨d, _, rfl⟩ := List.mem_map.1 hx
  exact ⟨rfl, rfl⟩
theorem lv_valid {up : Bool} {ls : List (List (Int × Int))} {lv : List St.Lv} (hc : (ckC up ls).2 = 0) (h : St.IsLv up ls.length (St.tri 0 ls) lv) : VL up ls.length lv := by
 obtain ⟨hn, hk, hg⟩ := ckC_good hc
 obtain ⟨h1, h2, h3⟩ := h
 have hb : ∀ l ∈ ls, ∀ s ∈ l, 1 ≤ s.1 ∧ s.1 ≤ 1000000 := fun l hl s hs => by
  have := (hg l hl).2 s hs
  unfold Bad at this
  omega
 have hpt : ∀ p, ∀ y ∈ ls.map (fun l => St.atP l p), 0 ≤ y ∧ y ≤ 1000000 := fun p y hy => by
  obtain ⟨l, hl, rfl⟩ := List.mem_map.1 hy
  exact St.atP_bd (chk_mono (hk l hl)) (hb l hl)
 have hex : ∀ x ∈ lv, ∃ t ∈ St.tri 0 ls, t.2.2 = x.1 := fun x hx => (h2 x.1).1 (List.mem_map.2 ⟨x, hx, rfl⟩)
 have hlen : lv.length ≤ 48 := by
  have hnd : (lv.map (·.1)).Nodup := h1.imp fun {a b} hab e => by subst e; exact St.ltU_irr hab
  have hsub := hnd.length_le_of_subset (l₂ := St.pr (St.tri 0 ls)) fun p hp => St.mem_pr.2 ((h2 p).1 hp)
  have a1 := St.pr_len (St.tri 0 ls)
  have a2 := St.tri_len ls 0 fun l hl => (hg l hl).1
  rw [List.length_map] at hsub
  omega
 refine ⟨hlen, fun h0 => ?_, hn, fun x hx => ?_, fun x hx => ?_, fun x hx => ?_, h1⟩
 ·cases lv with
  | nil => simp at h0
  | cons x lv =>
   obtain ⟨t, ht, _⟩ := hex x (List.mem_cons_self ..)
   obtain ⟨l, hl, _⟩ := St.tri_mem ht
   cases ls with
   | nil => simp at hl
   | cons _ _ => simp
 ·obtain ⟨t, ht, e⟩ := hex x hx
  obtain ⟨l, hl, hs, _⟩ := St.tri_mem ht
  have := (hg l hl).2 _ hs
  unfold Bad at this
  rw [← e]
  simp only at this
  omega
 ·rw [(h3 x hx).2, St.parts_tri]
  exact ⟨by simp, hpt x.1⟩
 ·rw [(h3 x hx).1, (h3 x hx).2, St.parts_tri, ← St.qty_tri ls 0 x.1]
  refine ⟨rfl, ?_⟩
  have := St.qty_pos (T := St.tri 0 ls) (p := x.1) (fun t ht => by
   obtain ⟨l, hl, hs, _⟩ := St.tri_mem ht
   exact (hb l hl _ hs).1) (hex x hx)
  omega
theorem LvO.at {base n : Nat} {w : World} {mg : Nat} {T : List St.Tr} {D : List (Int × Nat)} (h : LvO base n w mg T D) : LvAt w (some ⟨mg, 0, none⟩) D.length n (lvOf n T D) := by
 obtain ⟨h1, h2, h3, h4, h5⟩ := h
 refine ⟨by simp [lvOf], fun _ => ⟨mg, 0, rfl, h2, fun j hj => ?_⟩⟩
 have hd : D[j]?.getD (0, 0) ∈ D := getD_mem hj
 have eg : D.toArray[j]! = D[j]?.getD (0, 0) := by simp [hj, List.getElem?_eq_getElem hj]
 have el : (lvOf n T D)[j]?.getD Lv0 = ((D[j]?.getD (0, 0)).1, St.qty T (D[j]?.getD (0, 0)).1, St.parts n T (D[j]?.getD (0, 0)).1) := by
  unfold lvOf
  rw [List.getElem?_map, List.getElem?_eq_getElem hj]
  rfl
 have c0 := (h3.cell (i := j) (c := 0) (by simpa using hj) (by omega)).1
 have c1 := (h3.cell (i := j) (c := 1) (by simpa using hj) (by omega)).1
 have c2 := (h3.cell (i := j) (c := 2) (by simpa using hj) (by omega)).1
 rw [eg, Nat.zero_add] at c0 c1 c2
 rw [el, Nat.zero_add]
 exact ⟨_, _, ⟨c0, c1, c2⟩, (h4 _ hd).2.2.at (St.parts_len _ _ _)⟩

end Go.Proofs.YtjajigkacccdgaaGreat

namespace Go.Proofs.YtjajigkacccdgaaGreat
set_option linter.unusedVariables false
set_option linter.unusedSimpArgs false
open Go.RowKit
open Wd

theorem wok_small : WOK 4611686018427387904 where
 add := addOK_small
 sub := subOK_small
 div := by
  intro A A' n n' c c' x y w h h' hx hy hn hn'
  exact divW_small A A' n n' c c' x y w h h' (by omega) hy hn hn'
 len := fun x hx => Nat.le_trans (len_le_two (by omega)) (by omega)



end Go.Proofs.YtjajigkacccdgaaGreat
namespace Go.Proofs.YtjajigkacccdgaaGreat
set_option linter.unusedVariables false
set_option linter.unusedSimpArgs false
open Go.RowKit
open Wd
/-- No cell holds an integer (so no words lie there). -/
def NoInt (cs : Array Value) : Prop := ∀ (i : Nat) (k : IntKind) (z : Int), cs[i]? ≠ some (.int k z)
theorem NoInt.four {a b : Bool} {A A' : Option Addr} {n c n' c' : Nat} : NoInt #[.bool a, .slice A n c, .bool b, .slice A' n' c'] := by
 intro i k z
 match i with
 | 0 => simp
 | 1 => simp
 | 2 => simp
 | 3 => simp
 | i + 4 => simp
theorem NoInt.set {cs : Array Value} (h : NoInt cs) (i : Nat) (v : Value) (hv : ∀ k z, v ≠ .int k z) : NoInt (cs.setIfInBounds i v) := by
 intro j k z
 rw [Array.getElem?_setIfInBounds]
 split
 ·split
  ·intro e; injection e with e; exact hv _ _ e
  ·simp
 ·exact h j k z

theorem Wat.setQ {w : World} {A : Option Addr} {n : Nat} {l : List Nat} {g : Nat} {t : TypeId} {cs : Array Value} (h : Wat w A n l) (hb : Blk w g t cs) (hn : NoInt cs) (i : Nat) (u : Value) : Wat (w.setCell ⟨g, i, none⟩ u) A n l := by
 refine ⟨h.1, h.2.1, fun hn0 => ?_⟩
 obtain ⟨b, o, rfl, hlt, hc⟩ := h.2.2 hn0
 have hne : b ≠ g := by
  intro e
  subst e
  have h0 := hc 0 (by omega)
  rw [hb.cell] at h0
  exact hn _ _ _ h0
 refine ⟨b, o, rfl, by simpa [World.setCell] using hlt, fun j hj => ?_⟩
 rw [World.cell?_of_block (w := w) (Below.heap_setCell w _ u b (by simpa using hne))]
 exact hc j hj

/-- Four stores into a block of rationals. -/
def qst (w : World) (g o : Nat) (a b : Bool) (A A' : Option Addr) (k c k' c' : Nat) : World :=
 (((w.setCell ⟨g, o, none⟩ (.bool a)).setCell ⟨g, o + 1, none⟩ (.slice A k c)).setCell ⟨g, o + 2, none⟩ (.bool b)).setCell ⟨g, o + 3, none⟩ (.slice A' k' c')
def qput (cs : Array Value) (o : Nat) (a b : Bool) (A A' : Option Addr) (k c k' c' : Nat) : Array Value :=
 (((cs.setIfInBounds o (.bool a)).setIfInBounds (o + 1) (.slice A k c)).setIfInBounds (o + 2) (.bool b)).setIfInBounds (o + 3) (.slice A' k' c')
section
variable {w : World} {g o : Nat} {a b : Bool} {A A' : Option Addr} {k c k' c' : Nat} {cs : Array Value} {t : TypeId}
theorem NoInt.put4 (h : NoInt cs) : NoInt (qput cs o a b A A' k c k' c') :=
 (((h.set o _ (by simp)).set (o + 1) _ (by simp)).set (o + 2) _ (by simp)).set (o + 3) _ (by simp)
theorem Blk.put4 (h : Blk w g t cs) : Blk (qst w g o a b A A' k c k' c') g t (qput cs o a b A A' k c k' c') :=
 (((h.set o _).set (o + 1) _).set (o + 2) _).set (o + 3) _
theorem Blk.far4 {g' : Nat} {t' : TypeId} {cs' : Array Value} (h : Blk w g' t' cs') (hne : g' ≠ g) : Blk (qst w g o a b A A' k c k' c') g' t' cs' :=
 (((h.far (by simpa using hne) _).far (by simpa using hne) _).far (by simpa using hne) _).far (by simpa using hne) _
theorem Wat.put4 {B : Option Addr} {n : Nat} {l : List Nat} (hW : Wat w B n l) (h : Blk w g t cs) (hn : NoInt cs) : Wat (qst w g o a b A A' k c k' c') B n l := by
 have b1 := h.set o (.bool a)
 have n1 := hn.set o (.bool a) (by simp)
 have b2 := b1.set (o + 1) (.slice A k c)
 have n2 := n1.set (o + 1) (.slice A k c) (by simp)
 have b3 := b2.set (o + 2) (.bool b)
 have n3 := n2.set (o + 2) (.bool b) (by simp)
 exact (((hW.setQ h hn _ _).setQ b1 n1 _ _).setQ b2 n2 _ _).setQ b3 n3 _ _
theorem below_qst {B : Nat} {w0 : World} (h : Below B w0 w) (hg : B ≤ g) : Below B w0 (qst w g o a b A A' k c k' c') :=
 (((h.setCell (p := ⟨g, o, none⟩) hg _).setCell (p := ⟨g, o + 1, none⟩) hg _).setCell (p := ⟨g, o + 2, none⟩) hg _).setCell (p := ⟨g, o + 3, none⟩) hg _

theorem qput_size : (qput cs o a b A A' k c k' c').size = cs.size := by simp [qput]
theorem qput_same (h : o + 3 < cs.size) : (qput cs o a b A A' k c k' c')[o]? = some (.bool a) ∧ (qput cs o a b A A' k c k' c')[o + 1]? = some (.slice A k c) ∧ (qput cs o a b A A' k c k' c')[o + 2]? = some (.bool b) ∧ (qput cs o a b A A' k c k' c')[o + 3]? = some (.slice A' k' c') := by
 unfold qput
 refine ⟨?_, ?_, ?_, ?_⟩ <;> simp [Array.getElem?_setIfInBounds] <;> omega
theorem qput_other {j : Nat} (h : j < o ∨ o + 3 < j) : (qput cs o a b A A' k c k' c')[j]? = cs[j]? := by
 unfold qput
 rw [Array.getElem?_setIfInBounds_ne (by omega), Array.getElem?_setIfInBounds_ne (by omega), Array.getElem?_setIfInBounds_ne (by omega), Array.getElem?_setIfInBounds_ne (by omega)]
end

/-- A row of canonical rationals in a block of its own. -/
def QRow (w : World) (g n : Nat) (ps : List Rat) : Prop :=
 ps.length = n ∧ ∃ cs, Blk w g 42 cs ∧ NoInt cs ∧ cs.size = n * 4 ∧ ∀ j, j < n → ∃ A k c A' k' c',
  cs[j * 4]? = some (.bool (decide ((ps[j]?.getD 0).num < 0))) ∧ cs[j * 4 + 1]? = some (.slice A k c) ∧ cs[j * 4 + 2]? = some (.bool false) ∧ cs[j * 4 + 3]? = some (.slice A' k' c') ∧
  k ≤ c ∧ k' ≤ c' ∧ Wat w A k (digs (ps[j]?.getD 0).num.natAbs) ∧ Wat w A' k' (denW (ps[j]?.getD 0).den)

theorem QRow.below {w w' : World} {g n : Nat} {ps : List Rat} (h : QRow w g n ps) (hb : Below w.heap.size w w') : QRow w' g n ps := by
 obtain ⟨h1, cs, h2, h3, h4, h5⟩ := h
 refine ⟨h1, cs, h2.below hb h2.lt, h3, h4, fun j hj => ?_⟩
 obtain ⟨A, k, c, A', k', c', e1, e2, e3, e4, e5, e6, e7, e8⟩ := h5 j hj
 exact ⟨A, k, c, A', k', c', e1, e2, e3, e4, e5, e6, e7.below hb, e8.below hb⟩

theorem QRow.put {w : World} {g n i : Nat} {ps : List Rat} {q : Rat} {A A' : Option Addr} {k c k' c' : Nat} (h : QRow w g n ps) (hi : i < n) (hk : k ≤ c) (hk' : k' ≤ c') (hW : Wat w A k (digs q.num.natAbs)) (hW' : Wat w A' k' (denW q.den)) :
  QRow (qst w g (i * 4) (decide (q.num < 0)) false A A' k c k' c') g n (ps.set i q) := by
 obtain ⟨h1, cs, h2, h3, h4, h5⟩ := h
 refine ⟨by simpa using h1, _, h2.put4, h3.put4, by rw [qput_size, h4], fun j hj => ?_⟩
 by_cases hji : j = i
 ·subst hji
  have e : ((ps.set j q)[j]?.getD 0) = q := by simp [h1, hj]
  rw [e]
  obtain ⟨p1, p2, p3, p4⟩ := qput_same (cs := cs) (o := j * 4) (a := decide (q.num < 0)) (b := false) (A := A) (A' := A') (k := k) (c := c) (k' := k') (c' := c') (by omega)
  exact ⟨A, k, c, A', k', c', p1, p2, p3, p4, hk, hk', hW.put4 h2 h3, hW'.put4 h2 h3⟩
 ·have e : ((ps.set i q)[j]?.getD 0) = (ps[j]?.getD 0) := by rw [List.getElem?_set_ne (Ne.symm hji)]
  rw [e]
  obtain ⟨B, m, d, B', m', d', e1, e2, e3, e4, e5, e6, e7, e8⟩ := h5 j hj
  refine ⟨B, m, d, B', m', d', ?_, ?_, ?_, ?_, e5, e6, e7.put4 h2 h3, e8.put4 h2 h3⟩
  ·rw [qput_other (by omega)]; exact e1
  ·rw [qput_other (by omega)]; exact e2
  ·rw [qput_other (by omega)]; exact e3
  ·rw [qput_other (by omega)]; exact e4

/-- A row and a store into another box of rationals. -/
theorem QRow.far4 {w : World} {g g' n o : Nat} {ps : List Rat} {a b : Bool} {A A' : Option Addr} {k c k' c' : Nat} {t : TypeId} {cs : Array Value} (h : QRow w g n ps) (hne : g ≠ g') (hb : Blk w g' t cs) (hn : NoInt cs) :
  QRow (qst w g' o a b A A' k c k' c') g n ps := by
 obtain ⟨h1, cs', h2, h3, h4, h5⟩ := h
 refine ⟨h1, cs', h2.far4 hne, h3, h4, fun j hj => ?_⟩
 obtain ⟨B, m, d, B', m', d', e1, e2, e3, e4, e5, e6, e7, e8⟩ := h5 j hj
 exact ⟨B, m, d, B', m', d', e1, e2, e3, e4, e5, e6, e7.put4 hb hn, e8.put4 hb hn⟩

theorem QAt.put4 {w : World} {Nn Nd : Nat} {neg neg' : Bool} {B B' : Option Addr} {n d n' d' : Nat} {q : Rat} {g o : Nat} {a b : Bool} {A A' : Option Addr} {k c k' c' : Nat} {t : TypeId} {cs : Array Value} (h : QAt Nn Nd w neg B n d neg' B' n' d' q) (hb : Blk w g t cs) (hn : NoInt cs) :
  QAt Nn Nd (qst w g o a b A A' k c k' c') neg B n d neg' B' n' d' q := by
 obtain ⟨na, da, ⟨l, l', h1, h2, h3⟩, h4⟩ := h
 exact ⟨na, da, ⟨l, l', h1.put4 hb hn, h2.put4 hb hn, h3⟩, h4⟩

end Go.Proofs.YtjajigkacccdgaaGreat

namespace Go.Proofs.YtjajigkacccdgaaGreat
set_option linter.unusedVariables false
set_option linter.unusedSimpArgs false
open Go.RowKit
open Wd

/-- The lesser of a rest and a quantity. -/
def lessQ (r : Rat) (a : Int) : Rat := if (a : Rat) < r then (a : Rat) else r
/-- What is left of q before step k, and what is taken from step k. -/
def restAt (l : List (Int × Int)) (q : Rat) : Nat → Rat
 | 0 => q
 | k + 1 => restAt l q k - lessQ (restAt l q k) (l[k]?.getD (0, 0)).1
def partAt (l : List (Int × Int)) (q : Rat) (k : Nat) : Rat := lessQ (restAt l q k) (l[k]?.getD (0, 0)).1

theorem sub_whole (r : Rat) (a : Int) : (r - (a : Rat)).num = r.num - a * r.den ∧ (r - (a : Rat)).den = r.den := by
 have hd := r.den_nz
 have e0 : r - (a : Rat) = mkRat (r.num - a * r.den) r.den := by
  have e1 : r = mkRat r.num r.den := (Rat.mkRat_self r).symm
  have e2 : (a : Rat) = mkRat a 1 := by rw [Rat.mkRat_one]
  have := rat_sub r.num a (r.den : Int) 1 (by omega) (by omega)
  simp only [Int.natAbs_natCast, Int.mul_one] at this
  rw [show (1 : Int).natAbs = 1 from rfl, ← e1, ← e2] at this
  exact this
 have hg : Nat.gcd (r.num - a * r.den).natAbs r.den = 1 := by
  have h1 : Nat.gcd r.num.natAbs r.den = 1 := r.reduced
  have h2 : Int.gcd (r.num - a * r.den) r.den = Int.gcd r.num r.den := by
   rw [Int.sub_eq_add_neg, ← Int.neg_mul, Int.mul_comm (-a), Int.gcd_add_mul_left_left]
  exact h2.trans h1
 rw [e0, mk_num _ _ hd, mk_den _ _ hd, hg]
 simp

theorem rest_bd {r : Rat} {a : Int} {Nn Nd : Nat} (h0 : 0 ≤ r) (ha : 0 ≤ a) (hn : r.num.natAbs < Nn) (hd : r.den < Nd) :
  0 ≤ r - lessQ r a ∧ (r - lessQ r a).num.natAbs < Nn ∧ (r - lessQ r a).den < Nd := by
 have hdp := r.den_pos
 unfold lessQ
 split
 ·rename_i hlt
  obtain ⟨e1, e2⟩ := sub_whole r a
  have h1 : 0 ≤ r - (a : Rat) := by grind
  have h2 : 0 ≤ (r - (a : Rat)).num := Rat.num_nonneg.2 h1
  have h3 : 0 ≤ r.num := Rat.num_nonneg.2 h0
  refine ⟨h1, ?_, by rw [e2]; exact hd⟩
  have h4 : 0 ≤ a * r.den := Int.mul_nonneg ha (by omega)
  rw [e1] at h2 ⊢
  omega
 ·have e : r - r = 0 := by grind
  rw [e]
  refine ⟨Rat.le_refl, ?_, ?_⟩
  ·show 0 < Nn; omega
  ·show 1 < Nd; omega


theorem QAt.bd {Nn Nd : Nat} {w : World} {neg neg' : Bool} {A A' : Option Addr} {n c n' c' : Nat} {q : Rat} (h : QAt Nn Nd w neg A n c neg' A' n' c' q) : q.num.natAbs < Nn ∧ q.den < Nd := by
 obtain ⟨na, da, _, h1, h2, rfl⟩ := h
 have hp := qden_pos da
 rw [mk_num _ _ (by omega), mk_den _ _ (by omega)]
 refine ⟨?_, Nat.lt_of_le_of_lt (Nat.div_le_self _ _) h2⟩
 rw [Int.natAbs_tdiv]
 exact Nat.lt_of_le_of_lt (Nat.div_le_self _ _) h1

end Go.Proofs.YtjajigkacccdgaaGreat