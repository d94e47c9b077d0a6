/-
Plain law of the mirrored market: stacks, quantity, shares, welfare. No statement of the seat is proved here; no conditions beyond those of each theorem.
-/
import Derived.Test.YtnjpojpfiijlfaaGreatY4
namespace Go.Proofs.YtnjpojpfiijlfaaGreat
set_option linter.unusedVariables false
set_option linter.unusedSimpArgs false
open Go.RowKit
open Wd

def negV (x : St.Lv) : St.Lv := (-x.1, x.2)
namespace St
def negT (t : Tr) : Tr := (t.1, t.2.1, -t.2.2)
theorem tri_neg : ∀ (ls : List (List (Int × Int))) (k : Nat), tri k (negs ls) = (tri k ls).map negT
  | [], _ => rfl
  | l :: ls, k => by
    have e : negs (l :: ls) = negL l :: negs ls := rfl
    rw [e, tri, tri, List.map_append, tri_neg ls (k + 1)]
    congr 1
    unfold negL
    rw [List.map_map, List.map_map]
    rfl
theorem qty_neg : ∀ (T : List Tr) (p : Int), qty (T.map negT) (-p) = qty T p
  | [], _ => rfl
  | t :: T, p => by
    rw [List.map_cons, qty, qty, qty_neg T p]
    have : (negT t).2.2 = -p ↔ t.2.2 = p := by unfold negT; simp only; omega
    simp only [this]
    rfl
theorem part_neg : ∀ (T : List Tr) (p : Int) (i : Nat), part (T.map negT) (-p) i = part T p i
  | [], _, _ => rfl
  | t :: T, p, i => by
    rw [List.map_cons, part, part, part_neg T p i]
    have : (negT t).2.2 = -p ↔ t.2.2 = p := by unfold negT; simp only; omega
    simp only [this]
    rfl
theorem parts_neg (n : Nat) (T : List Tr) (p : Int) : parts n (T.map negT) (-p) = parts n T p := by
  unfold parts
  exact List.map_congr_left fun i _ => part_neg T p i
theorem IsLv.neg {up : Bool} {n : Nat} {ls : List (List (Int × Int))} {lv : List Lv} (h : IsLv up n (tri 0 ls) lv) : IsLv (!up) n (tri 0 (negs ls)) (lv.map negV) := by
  rw [tri_neg]
  have e : (lv.map negV).map (·.1) = (lv.map (·.1)).map fun p => -p := by simp [negV]
  refine ⟨?_, fun p => ?_, fun x hx => ?_⟩
  · rw [e, List.pairwise_map]
    refine h.1.imp fun {a b} hab => ?_
    cases up <;> simp [ltU] at hab ⊢ <;> omega
  · rw [e]
    constructor
    · intro hp
      obtain ⟨p', hp', rfl⟩ := List.mem_map.1 hp
      obtain ⟨t, ht, e9⟩ := (h.2.1 p').1 hp'
      exact ⟨negT t, List.mem_map.2 ⟨t, ht, rfl⟩, by rw [← e9]; rfl⟩
    · rintro ⟨t', ht', rfl⟩
      obtain ⟨t, ht, rfl⟩ := List.mem_map.1 ht'
      exact List.mem_map.2 ⟨t.2.2, (h.2.1 _).2 ⟨t, ht, rfl⟩, rfl⟩
  · obtain ⟨y, hy, rfl⟩ := List.mem_map.1 hx
    obtain ⟨h1, h2⟩ := h.2.2 y hy
    refine ⟨?_, ?_⟩
    · show y.2.1 = qty _ (-y.1)
      rw [qty_neg, h1]
    · show y.2.2 = parts n _ (-y.1)
      rw [parts_neg, h2]
end St
theorem uP_neg : ∀ (lv : List St.Lv) (u : Int), uP (lv.map negV) u = (uP lv u).map fun p => -p
  | [], _ => rfl
  | x :: r, u => by
    rw [List.map_cons, uP, uP]
    show (if u < x.2.1 then some (-x.1) else uP (r.map negV) (u - x.2.1)) = _
    split
    · rfl
    · exact uP_neg r _
theorem okU_neg {S D : List St.Lv} {u : Int} : okU (D.map negV) (S.map negV) u ↔ okU S D u := by
  unfold okU
  simp only [uP_neg]
  constructor
  · rintro ⟨a, b, h1, h2, h3⟩
    rw [Option.map_eq_some_iff] at h1 h2
    obtain ⟨a', e1, rfl⟩ := h1
    obtain ⟨b', e2, rfl⟩ := h2
    exact ⟨b', a', e2, e1, by omega⟩
  · rintro ⟨a, b, h1, h2, h3⟩
    exact ⟨-b, -a, by rw [h2]; rfl, by rw [h1]; rfl, by omega⟩
theorem TrZ.neg {S D : List St.Lv} {z : Int} (h : TrZ S D z) : TrZ (D.map negV) (S.map negV) z :=
  ⟨h.1, fun u h0 h1 => okU_neg.2 (h.2.1 u h0 h1), fun h9 => h.2.2 (okU_neg.1 h9)⟩
theorem negV_get (lv : List St.Lv) (k : Nat) : ((lvQ (lv.map negV))[k]?.getD (0, 0)).1 = ((lvQ lv)[k]?.getD (0, 0)).1 ∧ ((lvQ (lv.map negV))[k]?.getD (0, 0)).2 = -((lvQ lv)[k]?.getD (0, 0)).2 := by
  unfold lvQ
  rw [List.map_map, List.getElem?_map, List.getElem?_map]
  cases lv[k]? <;> simp [negV]
theorem restI_neg (lv : List St.Lv) (z : Int) : ∀ k, restI (lvQ (lv.map negV)) z k = restI (lvQ lv) z k
  | 0 => rfl
  | k + 1 => by rw [restI, restI, restI_neg lv z k, (negV_get lv k).1]
theorem partI_neg (lv : List St.Lv) (z : Int) (k : Nat) : partI (lvQ (lv.map negV)) z k = partI (lvQ lv) z k := by
  unfold partI
  rw [restI_neg, (negV_get lv k).1]
theorem costI_neg (lv : List St.Lv) (z : Int) : ∀ k, costI (lvQ (lv.map negV)) z k = -costI (lvQ lv) z k
  | 0 => rfl
  | k + 1 => by
    rw [costI, costI, costI_neg lv z k, partI_neg, (negV_get lv k).2, Int.mul_neg]
    omega
theorem shAll_neg (lv : List St.Lv) (n : Nat) (z : Int) : ∀ k, shAll (lv.map negV) n z k = shAll lv n z k
  | 0 => rfl
  | k + 1 => by
    rw [shAll, shAll, shAll_neg lv n z k, partI_neg]
    congr 1
    rw [List.getElem?_map]
    cases lv[k]? <;> simp [negV, Lv0]
theorem RunV.neg {os bs : List (List (Int × Int))} {z p wf z' p' wf' : Int} {xs ys xs' ys' : List Int} {S D S' D' : List St.Lv} (hc : ckB os bs = 0) (h : RunV os bs z p wf xs ys S D) (h' : RunV (negs bs) (negs os) z' p' wf' xs' ys' S' D') :
    z' = z ∧ p' = -p ∧ wf' = wf ∧ xs' = ys ∧ ys' = xs := by
  obtain ⟨_, _, ho, hb⟩ := ckB_iff.1 hc
  have l1 : (negs bs).length = bs.length := by simp [negs]
  have l2 : (negs os).length = os.length := by simp [negs]
  have i1 := h'.isS
  have i2 := h'.isD
  rw [l1] at i1
  rw [l2] at i2
  have e1 := i1.only (St.IsLv.neg h.isD)
  have e2 := i2.only (St.IsLv.neg h.isS)
  subst e1
  subst e2
  have e3 := h'.tr.only h.tr.neg
  subst e3
  refine ⟨rfl, price_neg h.pr h'.pr (Pos.of ho) (Pos.of hb) (PrB.of ho) (PrB.of hb), ?_, ?_, ?_⟩
  · rw [h'.w, h.w, costI_neg, costI_neg, List.length_map, List.length_map]
    omega
  · rw [h'.x, h.y, l1, List.length_map, shAll_neg]
  · rw [h'.y, h.x, l2, List.length_map, shAll_neg]

end Go.Proofs.YtnjpojpfiijlfaaGreat
