/-
The statements of layer 24: Long, stacked. The statements of layer 24: stacked. Plain law of merged stacks: rotated curves, one more curve, all of a stack. Rows of curves of the call's own; what Long tells. No statement of the seat is proved here; no conditions beyond those of each theorem.
-/
import Derived.Test.YtnjpojpfiijlfaaGreatGG
import Derived.Test.YtnjpojpfiijlfaaGreatGH
import Derived.Test.YtnjpojpfiijlfaaGreatAR
namespace Go.Proofs.YtnjpojpfiijlfaaGreat
set_option linter.unusedVariables false
set_option linter.unusedSimpArgs false
open Go.RowKit
open Wd

def longC (ls : List (List (Int × Int))) : Bool := decide (40 < ls.length) || ls.any fun l => decide (20 < l.length)

set_option maxRecDepth 100000 in
set_option maxHeartbeats 1000000 in
theorem long24_any (A : Option Addr) (n c : Nat) (ls : List (List (Int × Int))) (w : World) (h : CsAt w A n ls) :
    Calls Tryz.prog 20 #[.slice A n c] w fun e w' => e = .returned (.bool (longC ls)) ∧ Below w.heap.size w w' := by
  have HX := Lib.hid h
  have HLN := Lib.hid h.1
  by_cases h40 : 40 < n
  · have d1 : decide ((40 : Int) < (n : Int)) = true := by simp; omega
    have HE : Hid (longC ls = true) := by
      show longC ls = true
      unfold longC
      rw [h.1]
      simp [h40]
    clear h
    go_enter Tryz.func20, Tryz.ntmps20
    go_wp2
    go_ret
    exact ⟨by rw [HE.out]; rfl, Below.refl _ _⟩
  · have d1 : decide ((40 : Int) < (n : Int)) = false := by simp; omega
    have HE : Hid (longC ls = ls.any fun l => decide (20 < l.length)) := by
      show longC ls = _
      unfold longC
      rw [h.1]
      simp [h40]
    clear h
    go_enter Tryz.func20, Tryz.ntmps20
    go_wp2_with fail
    go_loopw [3] (fun t wr => ∃ k : Nat, k ≤ n ∧ t = .int .i64 k ∧ Hid (Below w.heap.size w wr ∧ (ls.take k).any (fun l => decide (20 < l.length)) = false)) (fun t _ => n - (intOf t).toNat)
    case atStart => exact ⟨0, Nat.zero_le _, rfl, Below.refl _ _, by simp⟩
    case round =>
      obtain ⟨k, hk, rfl, hR⟩ := hrel
      by_cases hlt : k < n
      · obtain ⟨b, o, rfl, hb, hc⟩ := HX.out.2 (by omega)
        obtain ⟨A', n', c', hcell, hst⟩ := hc k hlt
        have hcell := (hR.out.1.cell (p := ⟨b, o + k, none⟩) hb).trans hcell
        have hl : (ls[k]?.getD []).length = n' := hst.1
        have hkl : k < ls.length := by rw [HLN.out]; exact hlt
        have htk : ls.take (k + 1) = ls.take k ++ [ls[k]?.getD []] := by rw [List.take_add_one, List.getElem?_eq_getElem hkl]; rfl
        have hany : (ls.take (k + 1)).any (fun l => decide (20 < l.length)) = decide (20 < n') := by rw [htk, List.any_append, hR.out.2]; simp [hl]
        have i1 : (0 : Int) ≤ (k : Int) := by omega
        have i2 : (k : Int) < (n : Int) := by omega
        have HB := Lib.hid hR.out.1
        have HA := Lib.hid hany
        by_cases h20 : 20 < n'
        · have d2 : decide ((20 : Int) < (n' : Int)) = true := by simp; omega
          have HT : Hid (longC ls = true) := by
            show longC ls = true
            rw [HE.out]
            have := HA.out
            rw [decide_eq_true h20, List.any_eq_true] at this
            obtain ⟨x, hx, hx2⟩ := this
            exact List.any_eq_true.2 ⟨x, List.mem_of_mem_take hx, hx2⟩
          clear hR hst hc hl htk hany
          go_wp2
          go_ret
          exact ⟨by rw [HT.out]; rfl, HB.out⟩
        · have d2 : decide ((20 : Int) < (n' : Int)) = false := by simp; omega
          have HF : Hid ((ls.take (k + 1)).any (fun l => decide (20 < l.length)) = false) := by
            show _ = _
            rw [HA.out]
            simp [h20]
          clear hR hst hc hl htk hany
          go_wp2
          go_roundw
          case rel => exact ⟨k + 1, by omega, by go_num, HB.out, HF.out⟩
          case measure => simp [intOf]; omega
      · obtain rfl : k = n := by omega
        have HT : Hid (longC ls = false) := by
          show longC ls = false
          rw [HE.out]
          have := hR.out.2
          rwa [List.take_of_length_le (by rw [HLN.out]; omega)] at this
        have HB := Lib.hid hR.out.1
        clear hR
        go_wp2
        go_ret
        exact ⟨by rw [HT.out]; rfl, HB.out⟩

/-- What stacked returns: the stack of good curves, or nothing and the error. -/
def SkR (up : Bool) (n : Nat) (ls : List (List (Int × Int))) (w : World) (e : Ending) (w' : World) : Prop :=
  ∃ (A : Option Addr) (m cap : Nat) (lv : List St.Lv), e = .returned (.tuple #[.slice A m cap, .int .i64 (ckC up ls).2]) ∧ LvAt w' A m n lv ∧ m ≤ cap ∧ ((ckC up ls).2 = 0 → St.IsLv up n (St.tri 0 ls) lv ∧ VL up n lv) ∧ ((ckC up ls).2 ≠ 0 → m = 0) ∧ Below w.heap.size w w'

end Go.Proofs.YtnjpojpfiijlfaaGreat

namespace Go.Proofs.YtnjpojpfiijlfaaGreat
set_option linter.unusedVariables false
set_option linter.unusedSimpArgs false
open Go.RowKit
open Wd
/-- What a merge returns. -/
def MgR (up : Bool) (n : Nat) (ls : List (List (Int × Int))) (w : World) (e : Ending) (w' : World) : Prop :=
  ∃ (A : Option Addr) (m cap : Nat) (pl : Int) (lv : List St.Lv), e = .returned (.tuple #[.slice A m cap, .int .i64 pl, .int .i64 (ckC up ls).2]) ∧ LvAt w' A m n lv ∧ ((ckC up ls).2 = 0 → St.IsLv up n (St.tri 0 ls) lv ∧ VL up n lv) ∧ ((ckC up ls).2 ≠ 0 → m = 0) ∧ Below w.heap.size w w'

theorem merge_offers_any (A : Option Addr) (n c : Nat) (ls : List (List (Int × Int))) (w : World) (h : CsAt w A n ls) (hs : ∀ l ∈ ls, l.length ≤ 1000000000000) :
    Calls Tryz.prog 24 #[.slice A n c] w (MgR true n ls w) := by
  by_cases hc : (ckC true ls).2 = 0
  · refine (merge_offers_ok A n c ls w h hs hc).mono ?_
    rintro e w' ⟨D, mg, cap, rfl, h1, h2, h3, h4⟩
    have hn := h.1
    subst hn
    refine ⟨some ⟨mg, 0, none⟩, D.length, cap, 0, lvOf ls.length (St.tri 0 ls) D, by rw [hc], h3.at, fun _ => ⟨lvOf_is h1 h2, lv_valid hc (lvOf_is h1 h2)⟩, fun h0 => absurd hc h0, h4⟩
  · refine (merge_offers_no A n c ls w h hs hc).mono ?_
    rintro e w' ⟨rfl, h4⟩
    exact ⟨none, 0, 0, _, [], rfl, ⟨rfl, fun h0 => absurd rfl h0⟩, fun h0 => absurd h0 hc, fun _ => rfl, h4⟩

theorem merge_bids_any (A : Option Addr) (n c : Nat) (ls : List (List (Int × Int))) (w : World) (h : CsAt w A n ls) (hs : ∀ l ∈ ls, l.length ≤ 1000000000000) :
    Calls Tryz.prog 25 #[.slice A n c] w (MgR false n ls w) := by
  by_cases hc : (ckC false ls).2 = 0
  · refine (merge_bids_ok A n c ls w h hs hc).mono ?_
    rintro e w' ⟨D, mg, cap, rfl, h1, h2, h3, h4⟩
    have hn := h.1
    subst hn
    refine ⟨some ⟨mg, 0, none⟩, D.length, cap, 0, lvOf ls.length (St.tri 0 ls) D, by rw [hc], h3.at, fun _ => ⟨lvOf_is h1 h2, lv_valid hc (lvOf_is h1 h2)⟩, fun h0 => absurd hc h0, h4⟩
  · refine (merge_bids_no A n c ls w h hs hc).mono ?_
    rintro e w' ⟨rfl, h4⟩
    exact ⟨none, 0, 0, _, [], rfl, ⟨rfl, fun h0 => absurd rfl h0⟩, fun h0 => absurd h0 hc, fun _ => rfl, h4⟩

/-- What stacked returns: the stack of good curves, or nothing and the error. -/
def SkO (up : Bool) (n : Nat) (ls : List (List (Int × Int))) (w : World) (e : Ending) (w' : World) : Prop :=
  ∃ (A : Option Addr) (m cap : Nat) (lv : List St.Lv), e = .returned (.tuple #[.slice A m cap, .int .i64 (ckC up ls).2]) ∧ LvAt w' A m n lv ∧ ((ckC up ls).2 = 0 → St.IsLv up n (St.tri 0 ls) lv ∧ VL up n lv) ∧ ((ckC up ls).2 ≠ 0 → m = 0) ∧ Below w.heap.size w w'

set_option maxRecDepth 100000 in
set_option maxHeartbeats 1000000 in
theorem stacked_any (A : Option Addr) (n c : Nat) (ls : List (List (Int × Int))) (bids : Bool) (w : World) (h : CsAt w A n ls) (hs : ∀ l ∈ ls, l.length ≤ 1000000000000) :
    Calls Tryz.prog 47 #[.slice A n c, .bool bids] w (SkO (!bids) n ls w) := by
  have HO := Lib.hid (merge_offers_any A n c ls w h hs)
  have HB := Lib.hid (fun W (hW : Below w.heap.size w W) => merge_bids_any A n c ls W (h.below hW) hs)
  clear h hs
  cases bids
  · simp only [Bool.not_false]
    go_enter Tryz.func47, Tryz.ntmps47
    go_wp2_with fail
    refine HO.out.mono ?_
    rintro e w1 ⟨B, m, cap, pl, lv, rfl, hR⟩
    have HR := Lib.hid hR
    clear hR
    go_wp2
    go_ret2
    exact ⟨B, m, cap, lv, rfl, HR.out⟩
  · simp only [Bool.not_true]
    go_enter Tryz.func47, Tryz.ntmps47
    go_wp2_with fail
    refine HO.out.mono ?_
    rintro e w1 ⟨B, m, cap, pl, lv, rfl, hR⟩
    have HR := Lib.hid hR.2.2.2
    clear hR
    go_wp2_with fail
    refine (HB.out w1 HR.out).mono ?_
    rintro e w2 ⟨B2, m2, cap2, pl2, lv2, rfl, hR2⟩
    have hR3 := And.intro hR2.1 (And.intro hR2.2.1 (And.intro hR2.2.2.1 (HR.out.trans (hR2.2.2.2.mono HR.out.size))))
    have HR2 := Lib.hid hR3
    clear hR2 hR3
    go_wp2
    go_ret2
    exact ⟨B2, m2, cap2, lv2, rfl, HR2.out⟩

end Go.Proofs.YtnjpojpfiijlfaaGreat

namespace Go.Proofs.YtnjpojpfiijlfaaGreat
set_option linter.unusedVariables false
set_option linter.unusedSimpArgs false
open Go.RowKit
open Wd

theorem sumI_app : ∀ (xs ys : List Int), sumI (xs ++ ys) = sumI xs + sumI ys
  | [], ys => by simp [sumI]
  | x :: xs, ys => by rw [List.cons_append, sumI, sumI, sumI_app xs ys]; omega
theorem sumI_zero : ∀ {xs : List Int}, (∀ x ∈ xs, x = 0) → sumI xs = 0
  | [], _ => rfl
  | x :: xs, h => by rw [sumI, h x (List.mem_cons_self ..), sumI_zero fun y hy => h y (List.mem_cons_of_mem _ hy)]; rfl
theorem sumI_map_add {α : Type} (f g : α → Int) : ∀ l : List α, sumI (l.map fun x => f x + g x) = sumI (l.map f) + sumI (l.map g)
  | [] => rfl
  | x :: l => by rw [List.map_cons, sumI, sumI_map_add f g l, List.map_cons, sumI, List.map_cons, sumI]; omega
/-- One price among others that differ. -/
theorem sumI_one {α : Type} (key : α → Int) (q : Int) : ∀ {l : List α} {p : Int}, (l.map key).Nodup → p ∈ l.map key → sumI (l.map fun x => if p = key x then q else 0) = q
  | [], _, _, h => by simp at h
  | x :: l, p, hn, h => by
    rw [List.map_cons, List.nodup_cons] at hn
    rw [List.map_cons, sumI]
    by_cases e : p = key x
    · rw [if_pos e, sumI_zero]
      · omega
      · intro y hy
        obtain ⟨z, hz, rfl⟩ := List.mem_map.1 hy
        exact if_neg fun e2 => hn.1 (List.mem_map.2 ⟨z, hz, by rw [← e2, e]⟩)
    · rw [if_neg e]
      rw [List.map_cons] at h
      rcases List.mem_cons.1 h with h | h
      · exact absurd h e
      · rw [sumI_one key q hn.2 h]; omega

/-- The list from place q on, then its start. -/
def rotL {α : Type} (q : Nat) (l : List α) : List α := l.drop q ++ l.take q
theorem rotL_get {α : Type} (d : α) (k i : Nat) (l : List α) (hi : i < l.length) : (rotL (k % l.length) l)[i]?.getD d = l[(i + k) % l.length]?.getD d := by
  have hk : k % l.length < l.length := Nat.mod_lt _ (by omega)
  have e : (i + k) % l.length = (i + k % l.length) % l.length := by rw [Nat.add_mod_mod]
  rw [e]
  unfold rotL
  generalize k % l.length = q at *
  by_cases h : i < l.length - q
  · rw [List.getElem?_append_left (by simpa using h), List.getElem?_drop, Nat.mod_eq_of_lt (by omega), Nat.add_comm]
  · rw [List.getElem?_append_right (by simp; omega), List.length_drop, List.getElem?_take_of_lt (by omega)]
    have : (i + q) % l.length = i + q - l.length := by
      rw [Nat.mod_eq_sub_mod (by omega), Nat.mod_eq_of_lt (by omega)]
    rw [this, show i - (l.length - q) = i + q - l.length by omega]
theorem rotL_len {α : Type} (q : Nat) (l : List α) (h : q ≤ l.length) : (rotL q l).length = l.length := by simp [rotL]; omega
theorem rotL_mem {α : Type} {q : Nat} {l : List α} {x : α} : x ∈ rotL q l ↔ x ∈ l := by
  unfold rotL
  rw [List.mem_append, or_comm, ← List.mem_append, List.take_append_drop]
theorem rotL_sum (q : Nat) (l : List Int) : sumI (rotL q l) = sumI l := by
  unfold rotL
  rw [sumI_app, Int.add_comm, ← sumI_app, List.take_append_drop]
theorem rotL_map {α β : Type} (f : α → β) (q : Nat) (l : List α) : (rotL q l).map f = rotL q (l.map f) := by
  unfold rotL
  rw [List.map_append, List.map_drop, List.map_take]

theorem ckF_zero {up : Bool} : ∀ {ls : List (List (Int × Int))} {k : Nat}, (∀ l ∈ ls, chk up l = 0) → (ckF up k ls).2 = 0
  | [], _, _ => rfl
  | x :: ls, k, h => by
    rw [ckF, if_neg (by rw [h x (List.mem_cons_self ..)]; simp)]
    exact ckF_zero fun l hl => h l (List.mem_cons_of_mem _ hl)
theorem ckC_iff {up : Bool} {ls : List (List (Int × Int))} : (ckC up ls).2 = 0 ↔ ls.length ≤ 16 ∧ ∀ l ∈ ls, chk up l = 0 := by
  constructor
  · intro h
    have := ckC_good h
    exact ⟨this.1, this.2.1⟩
  · rintro ⟨h1, h2⟩
    unfold ckC
    rw [if_neg (by omega)]
    exact ckF_zero h2

namespace St
theorem tri_price : ∀ {ls : List (List (Int × Int))} {k : Nat} {p : Int}, (∃ t ∈ tri k ls, t.2.2 = p) ↔ ∃ l ∈ ls, ∃ s ∈ l, s.2 = p
  | [], _, _ => by simp [tri]
  | l :: ls, k, p => by
    have ih := tri_price (ls := ls) (k := k + 1) (p := p)
    constructor
    · rintro ⟨t, ht, e⟩
      rw [tri, List.mem_append] at ht
      rcases ht with ht | ht
      · obtain ⟨s, hs, rfl⟩ := List.mem_map.1 ht
        exact ⟨l, List.mem_cons_self .., s, hs, e⟩
      · obtain ⟨l', hl', r⟩ := ih.1 ⟨t, ht, e⟩
        exact ⟨l', List.mem_cons_of_mem _ hl', r⟩
    · rintro ⟨l', hl', s, hs, e⟩
      rcases List.mem_cons.1 hl' with rfl | hl'
      · exact ⟨(k, s.1, s.2), by rw [tri, List.mem_append]; exact Or.inl (List.mem_map.2 ⟨s, hs, rfl⟩), e⟩
      · obtain ⟨t, ht, e2⟩ := ih.2 ⟨l', hl', s, hs, e⟩
        exact ⟨t, by rw [tri, List.mem_append]; exact Or.inr ht, e2⟩
theorem IsLv.nodup {up : Bool} {n : Nat} {T : List Tr} {lv : List Lv} (h : IsLv up n T lv) : (lv.map (·.1)).Nodup := h.1.imp fun {a b} hab e => by subst e; exact ltU_irr hab

/-- The level i of a stack. -/
theorem IsLv.get {up : Bool} {n : Nat} {T : List Tr} {lv : List Lv} (h : IsLv up n T lv) {i : Nat} (hi : i < lv.length) : (lv[i]?.getD Lv0).2.1 = qty T (lv[i]?.getD Lv0).1 ∧ (lv[i]?.getD Lv0).2.2 = parts n T (lv[i]?.getD Lv0).1 := h.2.2 _ (getD_mem hi)
theorem map_fst_get {lv lv' : List Lv} (e : lv.map (·.1) = lv'.map (·.1)) (i : Nat) : (lv[i]?.getD Lv0).1 = (lv'[i]?.getD Lv0).1 := by
  have h := congrArg (fun l => l[i]?.getD 0) e
  simp only [List.getElem?_map] at h
  cases h1 : lv[i]? <;> cases h2 : lv'[i]? <;> simp [h1, h2] at h ⊢ <;> exact h

theorem rot_levels {up : Bool} {n q : Nat} {ls : List (List (Int × Int))} {lv lv' : List Lv} (hn : ls.length = n) (hq : q ≤ n) (h : IsLv up n (tri 0 ls) lv) (h' : IsLv up n (tri 0 (rotL q ls)) lv') :
    lv'.length = lv.length ∧ ∀ i, i < lv.length → (lv'[i]?.getD Lv0).1 = (lv[i]?.getD Lv0).1 ∧ (lv'[i]?.getD Lv0).2.1 = (lv[i]?.getD Lv0).2.1 ∧ (lv'[i]?.getD Lv0).2.2 = rotL q (lv[i]?.getD Lv0).2.2 := by
  have e : lv'.map (·.1) = lv.map (·.1) := by
    refine sorted_only h'.1 h.1 fun p => ?_
    rw [h.2.1 p, h'.2.1 p, tri_price, tri_price]
    constructor
    · rintro ⟨l, hl, r⟩; exact ⟨l, rotL_mem.1 hl, r⟩
    · rintro ⟨l, hl, r⟩; exact ⟨l, rotL_mem.2 hl, r⟩
  have hlen : lv'.length = lv.length := by have := congrArg List.length e; simpa using this
  refine ⟨hlen, fun i hi => ?_⟩
  have e1 := map_fst_get e i
  obtain ⟨a1, a2⟩ := h.get hi
  obtain ⟨b1, b2⟩ := h'.get (show i < lv'.length by omega)
  have hrl : (rotL q ls).length = n := by rw [rotL_len q ls (by omega)]; exact hn
  refine ⟨e1, ?_, ?_⟩
  · rw [a1, b1, e1, qty_tri, qty_tri, rotL_map, rotL_sum]
  · rw [a2, b2, e1]
    have p1 := parts_tri ls (lv[i]?.getD Lv0).1
    have p2 := parts_tri (rotL q ls) (lv[i]?.getD Lv0).1
    rw [hn] at p1
    rw [hrl] at p2
    rw [p1, p2, rotL_map]
/-- The quantity of the level at a price. -/
def atLv (lv : List Lv) (p : Int) : Int := sumI (lv.map fun x => if x.1 = p then x.2.1 else 0)
theorem atLv_is {up : Bool} {n : Nat} {T : List Tr} {lv : List Lv} (h : IsLv up n T lv) (p : Int) : atLv lv p = qty T p := by
  unfold atLv
  have e : lv.map (fun x => if x.1 = p then x.2.1 else 0) = lv.map (fun x => if p = x.1 then qty T p else 0) := by
    refine List.map_congr_left fun x hx => ?_
    by_cases hp : x.1 = p
    · rw [if_pos hp, if_pos hp.symm, (h.2.2 x hx).1, hp]
    · rw [if_neg hp, if_neg fun e => hp e.symm]
  rw [e]
  by_cases hm : p ∈ lv.map (·.1)
  · exact sumI_one (fun x : Lv => x.1) _ h.nodup hm
  · rw [qty_none fun hpr => hm ((h.2.1 p).2 (mem_pr.1 hpr))]
    refine sumI_zero fun y hy => ?_
    obtain ⟨x, _, rfl⟩ := List.mem_map.1 hy
    split <;> rfl
/-- All quantities of the steps. -/
def sumT (T : List Tr) : Int := sumI (T.map fun t => t.2.1)
theorem sum_prices : ∀ {T : List Tr} {ps : List Int}, ps.Nodup → (∀ t ∈ T, t.2.2 ∈ ps) → sumI (ps.map (qty T)) = sumT T
  | [], ps, _, _ => by
    unfold sumT
    refine (sumI_zero fun y hy => ?_)
    obtain ⟨x, _, rfl⟩ := List.mem_map.1 hy
    rfl
  | t :: T, ps, hn, h => by
    have ih := sum_prices hn fun s hs => h s (List.mem_cons_of_mem _ hs)
    have e : ps.map (qty (t :: T)) = ps.map fun p => (if t.2.2 = p then t.2.1 else 0) + qty T p := rfl
    rw [e, sumI_map_add (fun p => if t.2.2 = p then t.2.1 else 0) (qty T), ih]
    have := sumI_one (fun p : Int => p) t.2.1 (l := ps) (p := t.2.2) (by simpa using hn) (by simpa using h t (List.mem_cons_self ..))
    rw [this]
    unfold sumT
    rw [List.map_cons, sumI]
theorem tot_is {up : Bool} {n : Nat} {T : List Tr} {lv : List Lv} (h : IsLv up n T lv) : totI lv = sumT T := by
  have e : lv.map (·.2.1) = (lv.map (·.1)).map (qty T) := by
    rw [List.map_map]
    exact List.map_congr_left fun x hx => (h.2.2 x hx).1
  unfold totI
  rw [e]
  exact sum_prices h.nodup fun t ht => (h.2.1 t.2.2).2 ⟨t, ht, rfl⟩
theorem sumT_app (T S : List Tr) : sumT (T ++ S) = sumT T + sumT S := by unfold sumT; rw [List.map_append, sumI_app]
theorem qsum_sumI : ∀ l : List (Int × Int), qsum l = sumI (l.map (·.1))
  | [] => rfl
  | s :: l => by
    have := qsum_sumI l
    unfold qsum at *
    rw [List.map_cons, List.sum_cons, sumI, this]
theorem sumT_tri : ∀ (ls : List (List (Int × Int))) (k : Nat), sumT (tri k ls) = sumI (ls.map qsum)
  | [], _ => rfl
  | l :: ls, k => by
    rw [tri, sumT_app, sumT_tri ls (k + 1), List.map_cons, sumI, qsum_sumI]
    unfold sumT
    rw [List.map_map]
    rfl
theorem atP_mem {up : Bool} : ∀ {l : List (Int × Int)}, (l.map (·.2)).Pairwise (ltU up) → ∀ s ∈ l, atP l s.2 = s.1
  | [], _, s, hs => by simp at hs
  | a :: l, hm, s, hs => by
    rw [List.map_cons, List.pairwise_cons] at hm
    rw [atP]
    rcases List.mem_cons.1 hs with rfl | hs
    · rw [if_pos rfl, atP_none fun t ht e => ltU_irr (up := up) (a := s.2) (by have := hm.1 t.2 (List.mem_map.2 ⟨t, ht, rfl⟩); rwa [e] at this)]
      omega
    · rw [if_neg fun e => ltU_irr (up := up) (a := s.2) (by have := hm.1 s.2 (List.mem_map.2 ⟨s, hs, rfl⟩); rwa [e] at this), atP_mem hm.2 s hs]
      omega
/-- The stack of one curve. -/
theorem one_levels {up : Bool} {l : List (Int × Int)} (hk : chk up l = 0) : IsLv up 1 (tri 0 [l]) (l.map fun s => (s.2, s.1, [s.1])) := by
  have hm := chk_mono hk
  refine ⟨by rw [List.map_map]; exact hm, fun p => ?_, fun x hx => ?_⟩
  · rw [tri_price, List.map_map]
    constructor
    · intro h
      obtain ⟨s, hs, e⟩ := List.mem_map.1 h
      exact ⟨l, by simp, s, hs, e⟩
    · rintro ⟨l', hl', s, hs, e⟩
      simp at hl'
      subst hl'
      exact List.mem_map.2 ⟨s, hs, e⟩
  · obtain ⟨s, hs, rfl⟩ := List.mem_map.1 hx
    have e1 := atP_mem hm s hs
    refine ⟨?_, ?_⟩
    · show s.1 = _
      rw [qty_tri]
      simp only [List.map_cons, List.map_nil, sumI]
      omega
    · show [s.1] = _
      have := parts_tri [l] s.2
      simp only [List.length_cons, List.length_nil, Nat.zero_add] at this
      rw [this]
      simp [e1]
theorem more_levels {up : Bool} {n : Nat} {ls : List (List (Int × Int))} {more : List (Int × Int)} {s t one : List Lv} (hn : ls.length = n) (hs : IsLv up n (tri 0 ls) s) (ht : IsLv up (n + 1) (tri 0 (ls ++ [more])) t) (ho : IsLv up 1 (tri 0 [more]) one) :
    (∀ i, i < t.length → (t[i]?.getD Lv0).2.1 = atLv s (t[i]?.getD Lv0).1 + atLv one (t[i]?.getD Lv0).1 ∧ (t[i]?.getD Lv0).2.2[n]?.getD 0 = atLv one (t[i]?.getD Lv0).1) ∧ totI t = totI s + totI one := by
  refine ⟨fun i hi => ?_, ?_⟩
  · obtain ⟨a1, a2⟩ := ht.get hi
    rw [atLv_is hs, atLv_is ho, a1, a2]
    generalize (t[i]?.getD Lv0).1 = p at *
    constructor
    · rw [qty_tri, qty_tri, qty_tri, List.map_append, sumI_app]
    · have := parts_tri (ls ++ [more]) p
      rw [List.length_append, hn] at this
      simp only [List.length_cons, List.length_nil, Nat.zero_add] at this
      rw [this, qty_tri, List.map_append, List.getElem?_append_right (by simp [hn])]
      simp [hn, sumI]
  · rw [tot_is hs, tot_is ht, tot_is ho, sumT_tri, sumT_tri, sumT_tri, List.map_append, sumI_app]
end St

end Go.Proofs.YtnjpojpfiijlfaaGreat

namespace Go.Proofs.YtnjpojpfiijlfaaGreat
set_option linter.unusedVariables false
set_option linter.unusedSimpArgs false
open Go.RowKit
open Wd

theorem longC_no {ls : List (List (Int × Int))} (h : longC ls = false) : ls.length ≤ 40 ∧ ∀ l ∈ ls, l.length ≤ 20 := by
  unfold longC at h
  rw [Bool.or_eq_false_iff] at h
  refine ⟨by have := h.1; simp at this; exact this, fun l hl => ?_⟩
  have := List.any_eq_false.1 h.2 l hl
  simpa using this
theorem longC_small {ls : List (List (Int × Int))} (h : longC ls = false) : ∀ l ∈ ls, l.length ≤ 1000000000000 := fun l hl => by have := (longC_no h).2 l hl; omega
/-- A slice value. -/
def slv (x : Option Addr × Nat × Nat) : Value := .slice x.1 x.2.1 x.2.2
theorem CsAt.cells {w : World} {A : Option Addr} {n : Nat} {ls : List (List (Int × Int))} (h : CsAt w A n ls) (hn : n ≠ 0) :
    ∃ (b o : Nat) (F : Nat → Option Addr × Nat × Nat), A = some ⟨b, o, none⟩ ∧ b < w.heap.size ∧ ∀ j, j < n → w.cell? ⟨b, o + j, none⟩ = some (.slice (F j).1 (F j).2.1 (F j).2.2) ∧ StAt w (F j).1 (F j).2.1 (ls[j]?.getD []) := by
  obtain ⟨b, o, rfl, hb, hc⟩ := h.2 hn
  have : ∀ j, ∃ x : Option Addr × Nat × Nat, j < n → w.cell? ⟨b, o + j, none⟩ = some (.slice x.1 x.2.1 x.2.2) ∧ StAt w x.1 x.2.1 (ls[j]?.getD []) := fun j => by
    by_cases hj : j < n
    · obtain ⟨A', n', c', h1, h2⟩ := hc j hj
      exact ⟨(A', n', c'), fun _ => ⟨h1, h2⟩⟩
    · exact ⟨(none, 0, 0), fun h => absurd h hj⟩
  obtain ⟨F, hF⟩ := Classical.skolem.1 this
  exact ⟨b, o, F, rfl, hb, hF⟩
theorem Own.css {base : Nat} {e : TypeId} {w : World} {A : Option Addr} {n c : Nat} {vs : List (Option Addr × Nat × Nat)} {ls : List (List (Int × Int))} (h : Own base e 1 w A n c (vs.map slv)) (hl : ls.length = n) (hv : ∀ j, j < n → StAt w (vs[j]?.getD (none, 0, 0)).1 (vs[j]?.getD (none, 0, 0)).2.1 (ls[j]?.getD [])) : CsAt w A n ls := by
  have hvl : vs.length = n := by have := h.1; simpa using this
  refine ⟨hl, fun hn => ?_⟩
  obtain ⟨g, cap, hv2, hb, hlt⟩ := World.ownsRow.form h (by omega)
  simp at hv2
  obtain ⟨rfl, rfl⟩ := hv2
  refine ⟨g, 0, rfl, hlt, fun j hj => ⟨_, _, (vs[j]?.getD (none, 0, 0)).2.2, ?_, hv j hj⟩⟩
  rw [Nat.zero_add, World.ownsRow.cellAt h j (by simp; omega), List.getElem?_map, List.getElem?_eq_getElem (by omega)]
  rfl
theorem slv_one (x : Option Addr × Nat × Nat) : ∀ u ∈ (#[.slice x.1 x.2.1 x.2.2] : Array Value).toList, u.oneCell' = true := by
  intro u hu
  simp at hu
  rw [hu]
  rfl
theorem info_steps : (Tryz.prog.info? 29).map (fun i => (i.zero, i.size, i.bytes)) = some (some (.slice none 0 0), 1, 24) := by kernel_rfl

end Go.Proofs.YtnjpojpfiijlfaaGreat
