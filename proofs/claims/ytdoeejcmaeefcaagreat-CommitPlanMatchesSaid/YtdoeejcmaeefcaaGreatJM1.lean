/-
Rows with one more unit, and turned rows: the plain law. No statement of the seat is proved here; no conditions beyond those of each theorem.
-/
import Derived.Test.YtdoeejcmaeefcaaGreatHP
namespace Go.Proofs.YtdoeejcmaeefcaaGreat
set_option linter.unusedVariables false
set_option linter.unusedSimpArgs false
open Wd
open En (Pc PU)

def ins {α : Type} (x : α) : Nat → List α → List α
  | 0, l => x :: l
  | _ + 1, [] => [x]
  | k + 1, y :: l => y :: ins x k l
theorem ins_eq {α : Type} (x : α) : ∀ (k : Nat) (l : List α), ins x k l = l.take k ++ x :: l.drop k
  | 0, l => by simp [ins]
  | k + 1, [] => by simp [ins]
  | k + 1, y :: l => by simp [ins, ins_eq x k l]
theorem ins_len {α : Type} (x : α) (k : Nat) (l : List α) : (ins x k l).length = l.length + 1 := by
  rw [ins_eq]; simp; omega
theorem ins_mem {α : Type} {x y : α} {k : Nat} {l : List α} (h : y ∈ ins x k l) : y = x ∨ y ∈ l := by
  rw [ins_eq] at h
  simp at h
  rcases h with h | h | h
  · exact Or.inr (List.mem_of_mem_take h)
  · exact Or.inl h
  · exact Or.inr (List.mem_of_mem_drop h)
theorem ins_zip {α β : Type} (x : α) (y : β) : ∀ (k : Nat) (l : List α) (r : List β), l.length = r.length → (ins x k l).zip (ins y k r) = ins (x, y) k (l.zip r)
  | 0, l, r, _ => by simp [ins]
  | k + 1, [], [], _ => by simp [ins]
  | k + 1, a :: l, b :: r, h => by simp [ins, ins_zip x y k l r (by simpa using h)]
theorem ins_map {α β : Type} (f : α → β) (x : α) (k : Nat) (l : List α) : (ins x k l).map f = ins (f x) k (l.map f) := by
  rw [ins_eq, ins_eq]; simp
theorem ins_sum (x : Int) (k : Nat) (l : List Int) : (ins x k l).sum = x + l.sum := by
  have h : (l.take k).sum + (l.drop k).sum = l.sum := by rw [← List.sum_append, List.take_append_drop]
  rw [ins_eq]; simp; omega
theorem ins_sumR (x : Int) : ∀ (k : Nat) (l : List Int), En.sumR (ins x k l) = x + En.sumR l
  | 0, l => by simp [ins, En.sumR]
  | k + 1, [] => by simp [ins, En.sumR]
  | k + 1, y :: l => by simp only [ins, En.sumR, ins_sumR x k l]; omega
theorem cst_zero : ∀ {st : List (Int × Int)}, En.Up st → En.cst st 0 = 0
  | [], _ => by simp [En.cst]
  | (q, p) :: r, h => by
    have h1 := cst_zero (st := r) (by unfold En.Up at h; exact h.2.2)
    unfold En.Up at h
    have e : min 0 q = 0 := by have := h.1; omega
    simp only [En.cst, e]
    simpa using h1
theorem ins_cost (z : PU) (x : Int) : ∀ (k : Nat) (zs : List PU) (xs : List Int), zs.length = xs.length → En.costR (ins z k zs) (ins x k xs) = En.cst z.st x + En.costR zs xs
  | 0, zs, xs, _ => by simp [ins, En.costR]
  | k + 1, [], [], _ => by simp [ins, En.costR]
  | k + 1, a :: zs, b :: xs, h => by simp only [ins, En.costR, ins_cost z x k zs xs (by simpa using h)]; omega
theorem thr_shift {v : Int} {u : Nat} : ∀ {zs : List PU} {xs : List Int} {k : Nat}, En.Thr v u k zs xs → En.Thr v (u + 1) (k + 1) zs xs
  | [], [], _, _ => trivial
  | _ :: _, _ :: _, _, h => ⟨h.1, fun hk => h.2.1 (by omega), fun hk => h.2.2.1 (by omega), thr_shift h.2.2.2⟩
  | [], _ :: _, _, h => h.elim
  | _ :: _, [], _, h => h.elim
theorem thr_late {v : Int} {u : Nat} : ∀ {zs : List PU} {xs : List Int} {k : Nat}, u < k → En.Thr v u k zs xs → En.Thr v u (k + 1) zs xs
  | [], [], _, _, _ => trivial
  | _ :: _, _ :: _, _, hu, h => ⟨h.1, fun hk => by omega, fun hk => h.2.2.1 hu, thr_late (by omega) h.2.2.2⟩
  | [], _ :: _, _, _, h => h.elim
  | _ :: _, [], _, _, h => h.elim
theorem thr_ins {v : Int} {u : Nat} {z : PU} (hz : z.on = false) : ∀ {zs : List PU} {xs : List Int} {j k : Nat}, En.Thr v u k zs xs → En.Thr v (if u < k + j then u else u + 1) k (ins z j zs) (ins 0 j xs) := by
  have e1 : z.lo v = 0 := by unfold En.PU.lo; rw [hz]; rfl
  have e2 : z.hi v = 0 := by unfold En.PU.hi; rw [hz]; rfl
  intro zs xs j
  induction j generalizing zs xs with
  | zero =>
    intro k h
    refine ⟨by rw [e1, e2]; omega, fun _ => e1.symm, fun _ => e2.symm, ?_⟩
    split
    · exact thr_late (by omega) h
    · exact thr_shift h
  | succ j ih =>
    intro k h
    match zs, xs, h with
    | [], [], _ => exact ⟨by rw [e1, e2]; omega, fun _ => e1.symm, fun _ => e2.symm, trivial⟩
    | a :: zs, b :: xs, h =>
      have h4 := ih h.2.2.2
      have e : k + 1 + j = k + (j + 1) := by omega
      rw [e] at h4
      refine ⟨h.1, fun hk => h.2.1 ?_, fun hk => h.2.2.1 ?_, h4⟩
      · split at hk <;> omega
      · split at hk <;> omega
theorem opt_ins {z : PU} {zs : List PU} {xs : List Int} {f : Int} (hz : z.on = false) (j : Nat) (h : En.Opt zs f xs) : En.Opt (ins z j zs) f (ins 0 j xs) := by
  obtain ⟨h1, v, u, h2⟩ := h
  exact ⟨by rw [ins_sumR]; omega, v, _, thr_ins hz h2⟩

theorem pus_ins {us : List Un} {bs : List Bool} (v : Un) (b : Bool) (k : Nat) (h : us.length = bs.length) : pus (ins v k us) (ins b k bs) = ins ⟨b, v.mn, v.st⟩ k (pus us bs) := by
  unfold pus
  rw [ins_zip _ _ _ _ _ h, ins_map]
theorem ec_all : ∀ {us : List Un}, (∀ u ∈ us, uchk u = 0) → ecFrom us = 0
  | [], _ => by simp [ecFrom]
  | u :: r, h => by rw [ecFrom_ok (h u (by simp))]; exact ec_all fun x hx => h x (by simp [hx])
theorem echk_of {us : List Un} {m : Nat} (h1 : us.length ≤ 5) (h2 : m = us.length) (h3 : ∀ u ∈ us, uchk u = 0) : echk us m = 0 := by
  unfold echk
  rw [if_neg (by omega), ec_all h3, if_neg (by simp), if_neg (by omega)]
theorem echk_ins {us : List Un} {v : Un} {n k : Nat} (h : echk us n = 0) (hv : uchk v = 0) (hn : n < 5) : echk (ins v k us) (n + 1) = 0 := by
  obtain ⟨h1, h2, h3⟩ := echk_ok h
  refine echk_of (by rw [ins_len]; omega) (by rw [ins_len]; omega) fun u hu => ?_
  rcases ins_mem hu with rfl | hu
  · exact hv
  · exact h3 u hu
theorem aerr_ins {us : List Un} {bs : List Bool} {v : Un} {n k : Nat} {f : Int} (h : echk us n = 0) (hb : bs.length = n) (hv : uchk v = 0) (hn : n < 5) : aerr (ins v k us) (ins false k bs) (n + 1) f = aerr us bs n f := by
  have h2 := (echk_ok h).2.1
  unfold aerr
  rw [h, echk_ins h hv hn]
  unfold rmin rmax
  rw [ins_zip _ _ _ _ _ (by omega), ins_map, ins_map, ins_sum, ins_sum]
  simp
theorem optR_ins {us : List Un} {bs : List Bool} {v : Un} {n k : Nat} {f : Int} (h : echk us n = 0) (hb : bs.length = n) (hv : uchk v = 0) (hn : n < 5) (hO : En.Opt (pus us bs) f (optR us bs f)) : optR (ins v k us) (ins false k bs) f = ins 0 k (optR us bs f) := by
  obtain ⟨h1, h2, h3⟩ := echk_ok h
  refine optR_eq (echk_ok (echk_ins (k := k) h hv hn)).2.2 ?_
  rw [pus_ins v false k (by omega)]
  exact opt_ins rfl k hO
theorem up_of {u : Un} (h : uchk u = 0) : En.Up u.st := ((pus_allok (us := [u]) (bs := [true]) (by simpa using h)).1).1
theorem lcV_ins {us : List Un} {bs : List Bool} {v : Un} {n k : Nat} {f : Int} (h : echk us n = 0) (hb : bs.length = n) (hv : uchk v = 0) (hn : n < 5) (hp : LcP us bs n f) : lcV (ins v k us) (ins false k bs) (n + 1) f = lcV us bs n f := by
  obtain ⟨h1, h2, h3⟩ := echk_ok h
  unfold lcV
  rw [aerr_ins h hb hv hn]
  by_cases he : aerr us bs n f = 0
  · rw [if_pos he, if_pos he]
    obtain ⟨hO, hl⟩ := hp he
    rw [optR_ins h hb hv hn hO, pus_ins v false k (by omega), ins_cost _ _ _ _ _ (by rw [pus_len (n := n) (by omega) hb, hl])]
    rw [show (PU.mk false v.mn v.st).st = v.st from rfl, cst_zero (up_of hv)]
    omega
  · rw [if_neg he, if_neg he]

/-- A row turned by k. -/
def rot {α : Type} (k : Nat) (l : List α) : List α := l.drop k ++ l.take k
theorem rot_len {α : Type} (k : Nat) (l : List α) : (rot k l).length = l.length := by unfold rot; simp; omega
theorem rot_mem {α : Type} {k : Nat} {l : List α} {x : α} : x ∈ rot k l ↔ x ∈ l := by
  unfold rot
  rw [List.mem_append, or_comm, ← List.mem_append, List.take_append_drop]
theorem rot_back {α : Type} {k : Nat} {l : List α} (h : k ≤ l.length) : rot (l.length - k) (rot k l) = l := by
  unfold rot
  have e : l.length - k = (l.drop k).length := by simp
  rw [e, List.drop_left, List.take_left, List.take_append_drop]
theorem rot_map {α β : Type} (f : α → β) (k : Nat) (l : List α) : (rot k l).map f = rot k (l.map f) := by unfold rot; simp
theorem drop_zip2 {α β : Type} : ∀ (k : Nat) (l : List α) (r : List β), (l.zip r).drop k = (l.drop k).zip (r.drop k)
  | 0, _, _ => rfl
  | _ + 1, [], _ => by simp
  | _ + 1, _ :: _, [] => by simp
  | k + 1, _ :: l, _ :: r => by simp [drop_zip2 k l r]
theorem take_zip2 {α β : Type} : ∀ (k : Nat) (l : List α) (r : List β), (l.zip r).take k = (l.take k).zip (r.take k)
  | 0, _, _ => rfl
  | _ + 1, [], _ => by simp
  | _ + 1, _ :: _, [] => by simp
  | k + 1, _ :: l, _ :: r => by simp [take_zip2 k l r]
theorem rot_zip {α β : Type} (k : Nat) (l : List α) (r : List β) (h : l.length = r.length) : (rot k l).zip (rot k r) = rot k (l.zip r) := by
  unfold rot
  rw [List.zip_append (by simp; omega), ← drop_zip2, ← take_zip2]
theorem rot_sum (k : Nat) (l : List Int) : (rot k l).sum = l.sum := by
  have h : (l.take k).sum + (l.drop k).sum = l.sum := by rw [← List.sum_append, List.take_append_drop]
  unfold rot; rw [List.sum_append]; omega
theorem sumR_sum : ∀ (l : List Int), En.sumR l = l.sum
  | [] => rfl
  | x :: l => by simp [En.sumR, sumR_sum l]
theorem cost_app : ∀ {zs : List PU} {xs : List Int} (ys : List PU) (rs : List Int), zs.length = xs.length → En.costR (zs ++ ys) (xs ++ rs) = En.costR zs xs + En.costR ys rs
  | [], [], ys, rs, _ => by simp [En.costR]
  | z :: zs, x :: xs, ys, rs, h => by simp only [List.cons_append, En.costR, cost_app ys rs (zs := zs) (xs := xs) (by simpa using h)]; omega
theorem feas_app : ∀ {zs : List PU} {xs : List Int} {ys : List PU} {rs : List Int}, En.FeasR zs xs → En.FeasR ys rs → En.FeasR (zs ++ ys) (xs ++ rs)
  | [], [], ys, rs, _, h => by simpa using h
  | z :: zs, x :: xs, ys, rs, h, h' => ⟨h.1, h.2.1, feas_app h.2.2 h'⟩
  | [], _ :: _, _, _, h, _ => h.elim
  | _ :: _, [], _, _, h, _ => h.elim
theorem feas_take : ∀ {zs : List PU} {xs : List Int} (k : Nat), En.FeasR zs xs → En.FeasR (zs.take k) (xs.take k)
  | _, _, 0, _ => by simp [En.FeasR]
  | [], [], _ + 1, _ => trivial
  | z :: zs, x :: xs, k + 1, h => ⟨h.1, h.2.1, feas_take k h.2.2⟩
  | [], _ :: _, _, h => h.elim
  | _ :: _, [], _, h => h.elim
theorem feas_drop : ∀ {zs : List PU} {xs : List Int} (k : Nat), En.FeasR zs xs → En.FeasR (zs.drop k) (xs.drop k)
  | _, _, 0, h => by simpa using h
  | [], [], _ + 1, _ => trivial
  | z :: zs, x :: xs, k + 1, h => feas_drop (zs := zs) (xs := xs) k h.2.2
  | [], _ :: _, _, h => h.elim
  | _ :: _, [], _, h => h.elim
theorem feas_rot {zs : List PU} {xs : List Int} (k : Nat) (h : En.FeasR zs xs) : En.FeasR (rot k zs) (rot k xs) := feas_app (feas_drop k h) (feas_take k h)
theorem cost_rot {zs : List PU} {xs : List Int} (k : Nat) (h : zs.length = xs.length) : En.costR (rot k zs) (rot k xs) = En.costR zs xs := by
  unfold rot
  rw [cost_app _ _ (by simp; omega)]
  have e : En.costR zs xs = En.costR (zs.take k) (xs.take k) + En.costR (zs.drop k) (xs.drop k) := by
    rw [← cost_app _ _ (by simp; omega), List.take_append_drop, List.take_append_drop]
  omega
theorem pus_rot {us : List Un} {bs : List Bool} (k : Nat) (h : us.length = bs.length) : pus (rot k us) (rot k bs) = rot k (pus us bs) := by
  unfold pus
  rw [rot_zip _ _ _ h, rot_map]
theorem aerr_rot {us : List Un} {bs : List Bool} {n k : Nat} {f : Int} (h : echk us n = 0) (hb : bs.length = n) : aerr (rot k us) (rot k bs) n f = aerr us bs n f := by
  obtain ⟨h1, h2, h3⟩ := echk_ok h
  unfold aerr
  rw [h, echk_of (us := rot k us) (m := n) (by rw [rot_len]; omega) (by rw [rot_len]; omega) (fun u hu => h3 u (rot_mem.1 hu))]
  unfold rmin rmax
  rw [rot_zip _ _ _ (by omega), rot_map, rot_map, rot_sum, rot_sum]
theorem lcV_rot {us : List Un} {bs : List Bool} {n k : Nat} {f : Int} (h : echk us n = 0) (hb : bs.length = n) (hk : k ≤ n) (hp : LcP us bs n f) (hq : LcP (rot k us) (rot k bs) n f) : lcV (rot k us) (rot k bs) n f = lcV us bs n f := by
  obtain ⟨h1, h2, h3⟩ := echk_ok h
  have hae := aerr_rot (k := k) (f := f) h hb
  unfold lcV
  rw [hae]
  by_cases he : aerr us bs n f = 0
  · rw [if_pos he, if_pos he]
    obtain ⟨hO, hl⟩ := hp he
    obtain ⟨hO', hl'⟩ := hq (by rw [hae]; exact he)
    have hlen : us.length = bs.length := by omega
    have hok := pus_allok (bs := bs) h3
    have hok' := pus_allok (us := rot k us) (bs := rot k bs) (fun u hu => h3 u (rot_mem.1 hu))
    have f1 := hO.feas hok
    have f2 := hO'.feas hok'
    have epus := pus_rot k hlen
    have l1 := (hO'.least hok' (ys := rot k (optR us bs f)) (by rw [epus]; exact feas_rot k f1) (by rw [sumR_sum, rot_sum, ← sumR_sum]; exact hO.1)).1
    have hpl : (pus us bs).length = n := pus_len (by omega) hb
    rw [epus] at f2
    have f3 := feas_rot (n - k) f2
    have e3 : rot (n - k) (rot k (pus us bs)) = pus us bs := by
      have := rot_back (l := pus us bs) (k := k) (by omega)
      rwa [hpl] at this
    have l2 := (hO.least hok (ys := rot (n - k) (optR (rot k us) (rot k bs) f)) (by rw [e3] at f3; exact f3) (by rw [sumR_sum, rot_sum, ← sumR_sum]; exact hO'.1)).1
    rw [epus, cost_rot k (by omega)] at l1
    have e4 := cost_rot (zs := rot k (pus us bs)) (xs := optR (rot k us) (rot k bs) f) (n - k) (by rw [rot_len]; omega)
    rw [e3] at e4
    rw [epus]
    omega
  · rw [if_neg he, if_neg he]
theorem snoc_more {us : List Un} {bs : List Bool} {v : Un} {n : Nat} {f : Int} (hb : bs.length = n) (he : aerr us bs n f = 0) (hv : uchk v = 0) (hm : v.mn = 0) (hn : n < 5) : aerr (us ++ [v]) (bs ++ [true]) (n + 1) f = 0 := by
  obtain ⟨h, h0, hr1, hr2⟩ := aerr_ok he
  obtain ⟨h1, h2, h3⟩ := echk_ok h
  obtain ⟨_, _, _, _, c5, c6⟩ := uchk_ok hv
  unfold aerr
  rw [echk_of (us := us ++ [v]) (m := n + 1) (by simp; omega) (by simp; omega) (by intro u hu; simp at hu; rcases hu with hu | rfl; exact h3 u hu; exact hv)]
  rw [List.zip_append (by omega)]
  rw [show [v].zip [true] = [(v, true)] from rfl, rmin_snoc, rmax_snoc]
  simp only [if_true, hm]
  rw [if_neg (by simp), if_neg (by omega), if_neg (by omega)]
theorem snoc_cost {us : List Un} {bs : List Bool} {v : Un} {n : Nat} {f : Int} (hb : bs.length = n) (he : aerr us bs n f = 0) (hv : uchk v = 0) (hm : v.mn = 0) (hn : n < 5) (hp : LcP us bs n f) (hq : LcP (us ++ [v]) (bs ++ [true]) (n + 1) f) : lcV (us ++ [v]) (bs ++ [true]) (n + 1) f ≤ lcV us bs n f := by
  have he' := snoc_more hb he hv hm hn
  obtain ⟨h, h0, hr1, hr2⟩ := aerr_ok he
  obtain ⟨h1, h2, h3⟩ := echk_ok h
  obtain ⟨_, _, _, _, c5, c6⟩ := uchk_ok hv
  unfold lcV
  rw [if_pos he, if_pos he']
  obtain ⟨hO, hl⟩ := hp he
  obtain ⟨hO', hl'⟩ := hq he'
  have hok := pus_allok (bs := bs) h3
  have hok' := pus_allok (us := us ++ [v]) (bs := bs ++ [true]) (by intro u hu; simp at hu; rcases hu with hu | rfl; exact h3 u hu; exact hv)
  have epus : pus (us ++ [v]) (bs ++ [true]) = pus us bs ++ [⟨true, v.mn, v.st⟩] := by
    unfold pus; rw [List.zip_append (by omega)]; simp
  have hqs : 0 ≤ En.qs v.st := by
    have := (pus_allok (us := [v]) (bs := [true]) (by simpa using hv)).1
    have := this.2
    simp at this
    omega
  have l1 := (hO'.least hok' (ys := optR us bs f ++ [0]) (by
    rw [epus]
    refine feas_app (hO.feas hok) ⟨?_, ?_, trivial⟩
    · simp [En.PU.dn, hm]
    · simp [En.PU.up, hqs]) (by rw [sumR_snoc]; have := hO.1; omega)).1
  rw [epus, costR_snoc _ _ _ _ (by rw [pus_len (n := n) (by omega) hb, hl])] at l1
  rw [show (PU.mk true v.mn v.st).st = v.st from rfl, cst_zero (up_of hv)] at l1
  rw [epus]
  omega

end Go.Proofs.YtdoeejcmaeefcaaGreat
