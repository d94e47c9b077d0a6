/-
Allocate of package energy where it refuses; LeastCost. No statement of the seat is proved here; no conditions beyond those of each theorem.
-/
import Derived.Test.YthpldmlpononhaaGreatE5
import Derived.Test.YthpldmlpononhaaGreatE3
namespace Go.Proofs.YthpldmlpononhaaGreat
set_option linter.unusedVariables false
set_option linter.unusedSimpArgs false
open Go.RowKit
open Wd
open En (Pc PU)

/-- The error of Allocate. -/
def aerr (us : List Un) (bs : List Bool) (m : Nat) (f : Int) : Int := if echk us m ≠ 0 then echk us m else if f < 0 then 1 else if f < rmin (us.zip bs) ∨ rmax (us.zip bs) < f then 8 else 0
theorem aerr_ok {us : List Un} {bs : List Bool} {m : Nat} {f : Int} (h : aerr us bs m f = 0) : echk us m = 0 ∧ 0 ≤ f ∧ rmin (us.zip bs) ≤ f ∧ f ≤ rmax (us.zip bs) := by
  unfold aerr at h
  by_cases h1 : echk us m ≠ 0
  · rw [if_pos h1] at h; exact absurd h h1
  · rw [if_neg h1] at h
    by_cases h2 : f < 0
    · rw [if_pos h2] at h; cases h
    · rw [if_neg h2] at h
      by_cases h3 : f < rmin (us.zip bs) ∨ rmax (us.zip bs) < f
      · rw [if_pos h3] at h; cases h
      · exact ⟨Classical.byContradiction h1, by omega, by omega, by omega⟩

set_option maxRecDepth 100000 in
set_option maxHeartbeats 4000000 in
theorem ealloc_no (A B : Option Addr) (n c m d : Nat) (us : List Un) (bs : List Bool) (f : Int) (w : World) (h : UsAt w A n us) (h' : BsAt w B m bs) (hm : n ≤ 1000000000000) (hm' : m ≤ 1000000000000) (he : aerr us bs m f ≠ 0) :
    Calls Tryz.prog 49 #[.slice A n c, .slice B m d, .int .i64 f] w fun e w' => e = .returned (.tuple #[.slice none 0 0, .int .i64 (aerr us bs m f)]) ∧ Below w.heap.size w w' := by
  by_cases h1 : echk us m = 0
  · have T := erange_ok A B n c m d us bs w h h' hm hm' h1
    have HT := Lib.hid T
    obtain ⟨hn5, hmn, hok⟩ := echk_ok h1
    have hrb := range_bd (us.zip bs) (fun z hz => hok z.1 (List.of_mem_zip hz).1)
    clear T hmn hok
    by_cases h2 : f < 0
    · have e1 : aerr us bs m f = 1 := by unfold aerr; rw [if_neg (by rw [h1]; simp), if_pos h2]
      rw [e1]
      clear e1 he h1 h h' hrb
      have d1 : decide (f < 0) = true := by simpa using h2
      go_enter Tryz.func49, Tryz.ntmps49
      go_wp2_with fail
      refine HT.out.mono ?_
      rintro e w1 ⟨rfl, hb1⟩
      have HB := Lib.hid hb1
      clear hb1 HT
      go_wp2
      go_ret2
      exact ⟨rfl, HB.out⟩
    · have e1 : aerr us bs m f = if f < rmin (us.zip bs) ∨ rmax (us.zip bs) < f then 8 else 0 := by unfold aerr; rw [if_neg (by rw [h1]; simp), if_neg h2]
      have d1 : decide (f < 0) = false := by simpa using h2
      by_cases h3 : f < rmin (us.zip bs)
      · rw [if_pos (Or.inl h3)] at e1
        rw [e1]
        clear e1 he h1 h h' hrb
        generalize rmin (us.zip bs) = lo at *
        generalize rmax (us.zip bs) = hi at *
        have d2 : decide (f < lo) = true := by simpa using h3
        go_enter Tryz.func49, Tryz.ntmps49
        go_wp2_with fail
        refine HT.out.mono ?_
        rintro e w1 ⟨rfl, hb1⟩
        have HB := Lib.hid hb1
        clear hb1 HT
        go_wp2
        go_ret2
        exact ⟨rfl, HB.out⟩
      · have h4 : rmax (us.zip bs) < f := by
          rcases Int.lt_or_le (rmax (us.zip bs)) f with hx | hx
          · exact hx
          · exfalso; exact he (by rw [e1, if_neg (by omega)])
        rw [if_pos (Or.inr h4)] at e1
        rw [e1]
        clear e1 he h1 h h' hrb
        generalize rmin (us.zip bs) = lo at *
        generalize rmax (us.zip bs) = hi at *
        have d2 : decide (f < lo) = false := by simpa using h3
        have d3 : decide (hi < f) = true := by simpa using h4
        go_enter Tryz.func49, Tryz.ntmps49
        go_wp2_with fail
        refine HT.out.mono ?_
        rintro e w1 ⟨rfl, hb1⟩
        have HB := Lib.hid hb1
        clear hb1 HT
        go_wp2
        go_ret2
        exact ⟨rfl, HB.out⟩
  · have T := erange_no A B n c m d us bs w h h' hm hm' h1
    have e1 : aerr us bs m f = echk us m := by unfold aerr; rw [if_pos h1]
    rw [e1]
    clear e1 he h h'
    generalize echk us m = x at *
    have hx : (x != 0) = true := by simpa using h1
    have HT := Lib.hid T
    clear T h1
    go_enter Tryz.func49, Tryz.ntmps49
    go_wp2_with fail
    refine HT.out.mono ?_
    rintro e w1 ⟨rfl, hb1⟩
    have HB := Lib.hid hb1
    clear hb1 HT
    go_wp2
    go_ret2
    exact ⟨rfl, HB.out⟩

theorem chk_curve {l : List (Int × Int)} (h : chk true l = 0) : curveE l = 0 := by
  unfold curveE; split
  · rfl
  · exact h
/-- The cost as the plain law has it. -/
theorem costR_snoc : ∀ (zs : List PU) (xs : List Int) (z : PU) (x : Int), zs.length = xs.length → En.costR (zs ++ [z]) (xs ++ [x]) = En.costR zs xs + En.cst z.st x
  | [], [], z, x, _ => by simp [En.costR]
  | y :: zs, v :: xs, z, x, h => by
    rw [List.cons_append, List.cons_append, En.costR, En.costR, costR_snoc zs xs z x (by simpa using h)]; omega
  | [], _ :: _, _, _, h => by simp at h
  | _ :: _, [], _, _, h => by simp at h
theorem takeI {xs : List Int} {k : Nat} (hk : k < xs.length) : xs.take (k + 1) = xs.take k ++ [xs[k]?.getD 0] := by
  rw [List.take_succ_eq_append_getElem hk, List.getElem?_eq_getElem hk]; rfl
theorem ecI_costR {us : List Un} {bs : List Bool} {xs : List Int} {n : Nat} (h1 : us.length = n) (h2 : bs.length = n) (h3 : xs.length = n) : ∀ k, k ≤ n → ecI us xs k = En.costR ((pus us bs).take k) (xs.take k)
  | 0, _ => by simp [ecI, En.costR]
  | k + 1, hk => by
    have hl := pus_len h1 h2
    have hg := pus_get (us := us) (bs := bs) (k := k) (by omega) (by omega)
    rw [ecI, ecI_costR h1 h2 h3 k (by omega), take_snocP (by omega), takeI (by omega), costR_snoc _ _ _ _ (by simp; omega)]
    unfold PU0
    rw [hg]
theorem ecI_all {us : List Un} {bs : List Bool} {xs : List Int} {n : Nat} (h1 : us.length = n) (h2 : bs.length = n) (h3 : xs.length = n) : ecI us xs n = En.costR (pus us bs) xs := by
  rw [ecI_costR h1 h2 h3 n (Nat.le_refl _), List.take_of_length_le (by rw [pus_len h1 h2]; exact Nat.le_refl _), List.take_of_length_le (by omega)]
theorem feas_get : ∀ {zs : List PU} {xs : List Int}, En.FeasR zs xs → xs.length = zs.length ∧ ∀ k, k < zs.length → (zs[k]?.getD PU0).dn ≤ xs[k]?.getD 0 ∧ xs[k]?.getD 0 ≤ (zs[k]?.getD PU0).up
  | [], [], _ => ⟨rfl, fun k hk => absurd hk (by simp)⟩
  | z :: zs, x :: xs, h => by
    obtain ⟨h1, h2, h3⟩ := h
    obtain ⟨i1, i2⟩ := feas_get h3
    refine ⟨by simp [i1], fun k hk => ?_⟩
    match k with
    | 0 => exact ⟨h1, h2⟩
    | k + 1 => simpa using i2 k (by simpa using hk)
  | [], _ :: _, h => h.elim
  | _ :: _, [], h => h.elim
theorem feas_of : ∀ {zs : List PU} {xs : List Int}, xs.length = zs.length → (∀ k, k < zs.length → (zs[k]?.getD PU0).dn ≤ xs[k]?.getD 0 ∧ xs[k]?.getD 0 ≤ (zs[k]?.getD PU0).up) → En.FeasR zs xs
  | [], [], _, _ => trivial
  | z :: zs, x :: xs, hl, h => by
    refine ⟨(h 0 (by simp)).1, (h 0 (by simp)).2, feas_of (by simpa using hl) fun k hk => ?_⟩
    have := h (k + 1) (by simpa using hk)
    simpa using this
  | [], _ :: _, h, _ => by simp at h
  | _ :: _, [], h, _ => by simp at h
theorem feas_inC {us : List Un} {bs : List Bool} {xs : List Int} {n : Nat} (h1 : us.length = n) (h2 : bs.length = n) (hok : ∀ u ∈ us, uchk u = 0) (h : En.FeasR (pus us bs) xs) : InC us xs := by
  intro k hk
  obtain ⟨hl, hg⟩ := feas_get h
  have hz := pus_len h1 h2
  have hgk := hg k (by omega)
  unfold PU0 at hgk
  rw [pus_get hk (by omega)] at hgk
  have hm : (us[k]?.getD U0) ∈ us := by rw [List.getElem?_eq_getElem hk]; exact List.getElem_mem _
  obtain ⟨u1, u2, u3, u4, u5, u6⟩ := uchk_ok (hok _ hm)
  refine ⟨chk_curve u1, ?_⟩
  unfold PU.dn PU.up at hgk
  simp only at hgk
  rw [qs_eq] at hgk
  cases hb : bs[k]?.getD false
  · rw [hb] at hgk; simp at hgk; omega
  · rw [hb] at hgk; simp only [if_true] at hgk; omega
theorem IRow.at {w : World} {g : Nat} {xs : List Int} {n : Nat} (h : IRow w g xs) (hl : xs.length = n) : IsAt w (some ⟨g, 0, none⟩) n xs :=
  ⟨hl, fun _ => ⟨g, 0, rfl, Blk.lt h, fun j hj => by rw [Nat.zero_add]; exact h.cell (by omega)⟩⟩
theorem pus_allok {us : List Un} {bs : List Bool} (h : ∀ u ∈ us, uchk u = 0) : En.AllOk (pus us bs) := (pus_ok (zs := us.zip bs) fun z hz => h z.1 (List.of_mem_zip hz).1).1

set_option maxRecDepth 100000 in
set_option maxHeartbeats 4000000 in
theorem elc_ok (A B : Option Addr) (n c d : Nat) (us : List Un) (bs : List Bool) (f : Int) (w : World) (h : UsAt w A n us) (h' : BsAt w B n bs) (hm : n ≤ 1000000000000) (he : aerr us bs n f = 0) :
    Calls Tryz.prog 50 #[.slice A n c, .slice B n d, .int .i64 f] w fun e w' => ∃ xs, En.Opt (pus us bs) f xs ∧ xs.length = n ∧ e = .returned (.tuple #[.int .i64 (En.costR (pus us bs) xs), .int .i64 0]) ∧ Below w.heap.size w w' := by
  obtain ⟨h1, h2, h3, h4⟩ := aerr_ok he
  have HT := Lib.hid (ealloc_ok A B n c d us bs f w h h' hm h1 h2 h3 h4)
  obtain ⟨hn5, hmn, hok⟩ := echk_ok h1
  have HU := Lib.hid h
  have HBL := Lib.hid h'.1
  have HOK := Lib.hid hok
  have hn : n ≤ 5 := by omega
  clear h h' he h1 hmn hok h2 h3 h4 hn5
  go_enter Tryz.func50, Tryz.ntmps50
  go_wp2_with fail
  refine HT.out.mono ?_
  rintro e w1 ⟨g, xs, rfl, hR, hxl, hO, hg, hb1⟩
  have hT := ecost_any A (some ⟨g, 0, none⟩) n c n us xs w1 (HU.out.below hb1) (hR.at hxl) hn (feas_inC HU.out.1 HBL.out HOK.out (hO.feas (pus_allok HOK.out)))
  rw [ecI_all HU.out.1 HBL.out hxl] at hT
  have HT2 := Lib.hid hT
  have HB := Lib.hid hb1
  have HO := Lib.hid hO
  have HXL := Lib.hid hxl
  clear hT hb1 hO hxl HT hR
  go_wp2_with fail
  refine HT2.out.mono ?_
  rintro e w2 ⟨rfl, hb2⟩
  have HB2 := Lib.hid (HB.out.trans (hb2.mono HB.out.size))
  clear hb2 HT2
  go_wp2
  go_ret2
  exact ⟨xs, HO.out, HXL.out, rfl, HB2.out⟩

set_option maxRecDepth 100000 in
set_option maxHeartbeats 4000000 in
theorem elc_no (A B : Option Addr) (n c m d : Nat) (us : List Un) (bs : List Bool) (f : Int) (w : World) (h : UsAt w A n us) (h' : BsAt w B m bs) (hm : n ≤ 1000000000000) (hm' : m ≤ 1000000000000) (he : aerr us bs m f ≠ 0) :
    Calls Tryz.prog 50 #[.slice A n c, .slice B m d, .int .i64 f] w fun e w' => e = .returned (.tuple #[.int .i64 0, .int .i64 (aerr us bs m f)]) ∧ Below w.heap.size w w' := by
  have HT := Lib.hid (ealloc_no A B n c m d us bs f w h h' hm hm' he)
  clear h h'
  generalize aerr us bs m f = x at *
  have hx : (x != 0) = true := by simpa using he
  clear he
  go_enter Tryz.func50, Tryz.ntmps50
  go_wp2_with fail
  refine HT.out.mono ?_
  rintro e w1 ⟨rfl, hb1⟩
  have HB := Lib.hid hb1
  clear hb1 HT
  go_wp2
  go_ret2
  exact ⟨rfl, HB.out⟩

end Go.Proofs.YthpldmlpononhaaGreat
