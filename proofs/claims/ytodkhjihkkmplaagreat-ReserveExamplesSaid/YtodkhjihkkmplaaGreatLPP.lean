/-
The sort of the library at this dump: its bodies, as the kit lays them. Plain law of package reserve: units are taken in the order of their prices till the need is covered. No statement of the seat is proved here; no conditions beyond those of each theorem.
-/
import Derived.Ground.GgsProg
import Derived.Shelf.GgSortFunc.Small
import Derived.Shelf.GgSortFunc.Tiny
import Derived.Shelf.SlSortFuncK.WholeK
import Derived.Test.YtodkhjihkkmplaaGreatProg
namespace Go.Proofs.YtodkhjihkkmplaaGreat
open Go.Shelf
def Tryz.laysGg6_ren : Go.Shelf.Ren := ⟨fun | 6 => 42 | 10 => 69 | 11 => 70 | 12 => 71 | 13 => 72 | 14 => 73 | 24 => 108 | 25 => 109 | 26 => 110 | 27 => 111 | 28 => 112 | 29 => 113 | 30 => 114 | 31 => 115 | 32 => 116 | 33 => 117 | 34 => 146 | 35 => 147 | 36 => 148 | 37 => 149 | 38 => 150 | 39 => 164 | n => n, fun | 20 => 20 | 26 => 68 | 35 => 90 | 0 => 0 | 37 => 92 | 3 => 3 | 41 => 96 | 44 => 99 | 49 => 50 | 51 => 102 | 4 => 4 | 54 => 128 | 53 => 127 | 58 => 132 | 5 => 5 | 9 => 9 | 60 => 148 | 64 => 152 | 66 => 165 | 67 => 166 | 17 => 17 | 32 => 87 | 33 => 88 | 82 => 185 | 12 => 12 | 75 => 178 | 76 => 179 | 77 => 180 | 78 => 181 | 79 => 182 | 80 => 183 | n => n, fun | n => n⟩
theorem Tryz.laysGg6 : LaysGg.n6 Tryz.prog Tryz.laysGg6_ren := {
 mixed := by kernel_rfl
 f6 := Tryz.func42.trans (congrArg some (by kernel_rfl))
 f10 := Tryz.func69.trans (congrArg some (by kernel_rfl))
 f11 := Tryz.func70.trans (congrArg some (by kernel_rfl))
 f12 := Tryz.func71.trans (congrArg some (by kernel_rfl))
 f13 := Tryz.func72.trans (congrArg some (by kernel_rfl))
 f14 := Tryz.func73.trans (congrArg some (by kernel_rfl))
 f24 := Tryz.func108.trans (congrArg some (by kernel_rfl))
 f25 := Tryz.func109.trans (congrArg some (by kernel_rfl))
 f26 := Tryz.func110.trans (congrArg some (by kernel_rfl))
 f27 := Tryz.func111.trans (congrArg some (by kernel_rfl))
 f28 := Tryz.func112.trans (congrArg some (by kernel_rfl))
 f29 := Tryz.func113.trans (congrArg some (by kernel_rfl))
 f30 := Tryz.func114.trans (congrArg some (by kernel_rfl))
 f31 := Tryz.func115.trans (congrArg some (by kernel_rfl))
 f32 := Tryz.func116.trans (congrArg some (by kernel_rfl))
 f33 := Tryz.func117.trans (congrArg some (by kernel_rfl))
 f34 := Tryz.func146.trans (congrArg some (by kernel_rfl))
 f35 := Tryz.func147.trans (congrArg some (by kernel_rfl))
 f36 := Tryz.func148.trans (congrArg some (by kernel_rfl))
 f37 := Tryz.func149.trans (congrArg some (by kernel_rfl))
 f38 := Tryz.func150.trans (congrArg some (by kernel_rfl))
 f39 := Tryz.func164.trans (congrArg some (by kernel_rfl))
 t0 := Tryz.underlying0
 a0 := Tryz.isAgg0
 z0 := Tryz.sizeOf0
 v0 := Tryz.zeroValue0
 i0 := by kernel_rfl
 t3 := Tryz.underlying3
 a3 := Tryz.isAgg3
 z3 := Tryz.sizeOf3
 v3 := Tryz.zeroValue3
 i3 := by kernel_rfl
 t4 := Tryz.underlying4
 a4 := Tryz.isAgg4
 z4 := Tryz.sizeOf4
 v4 := Tryz.zeroValue4
 i4 := by kernel_rfl
 t5 := Tryz.underlying5
 a5 := Tryz.isAgg5
 z5 := Tryz.sizeOf5
 v5 := Tryz.zeroValue5
 i5 := by kernel_rfl
 t9 := Tryz.underlying9
 a9 := Tryz.isAgg9
 z9 := Tryz.sizeOf9
 v9 := Tryz.zeroValue9
 i9 := by kernel_rfl
 t12 := Tryz.underlying12
 a12 := Tryz.isAgg12
 z12 := Tryz.sizeOf12
 v12 := Tryz.zeroValue12
 i12 := by kernel_rfl
 t17 := Tryz.underlying17
 a17 := Tryz.isAgg17
 z17 := Tryz.sizeOf17
 v17 := Tryz.zeroValue17
 i17 := by kernel_rfl
 t20 := Tryz.underlying20
 a20 := Tryz.isAgg20
 z20 := Tryz.sizeOf20
 v20 := Tryz.zeroValue20
 i20 := by kernel_rfl
 t26 := Tryz.underlying68
 a26 := Tryz.isAgg68
 z26 := Tryz.sizeOf68
 v26 := Tryz.zeroValue68
 i26 := by kernel_rfl
 t32 := Tryz.underlying87
 a32 := Tryz.isAgg87
 z32 := Tryz.sizeOf87
 v32 := Tryz.zeroValue87
 i32 := by kernel_rfl
 t33 := Tryz.underlying88
 a33 := Tryz.isAgg88
 z33 := Tryz.sizeOf88
 v33 := Tryz.zeroValue88
 i33 := by kernel_rfl
 t35 := Tryz.underlying90
 a35 := Tryz.isAgg90
 z35 := Tryz.sizeOf90
 v35 := Tryz.zeroValue90
 i35 := by kernel_rfl
 t37 := Tryz.underlying92
 a37 := Tryz.isAgg92
 z37 := Tryz.sizeOf92
 v37 := Tryz.zeroValue92
 i37 := by kernel_rfl
 t41 := Tryz.underlying96
 a41 := Tryz.isAgg96
 z41 := Tryz.sizeOf96
 v41 := Tryz.zeroValue96
 i41 := by kernel_rfl
 t44 := Tryz.underlying99
 a44 := Tryz.isAgg99
 z44 := Tryz.sizeOf99
 v44 := Tryz.zeroValue99
 i44 := by kernel_rfl
 t49 := Tryz.underlying50
 a49 := Tryz.isAgg50
 z49 := Tryz.sizeOf50
 v49 := Tryz.zeroValue50
 i49 := by kernel_rfl
 t51 := Tryz.underlying102
 a51 := Tryz.isAgg102
 z51 := Tryz.sizeOf102
 v51 := Tryz.zeroValue102
 i51 := by kernel_rfl
 t53 := Tryz.underlying127
 a53 := Tryz.isAgg127
 z53 := Tryz.sizeOf127
 v53 := Tryz.zeroValue127
 i53 := by kernel_rfl
 t54 := Tryz.underlying128
 a54 := Tryz.isAgg128
 z54 := Tryz.sizeOf128
 v54 := Tryz.zeroValue128
 i54 := by kernel_rfl
 t58 := Tryz.underlying132
 a58 := Tryz.isAgg132
 z58 := Tryz.sizeOf132
 v58 := Tryz.zeroValue132
 i58 := by kernel_rfl
 t60 := Tryz.underlying148
 a60 := Tryz.isAgg148
 z60 := Tryz.sizeOf148
 v60 := Tryz.zeroValue148
 i60 := by kernel_rfl
 t64 := Tryz.underlying152
 a64 := Tryz.isAgg152
 z64 := Tryz.sizeOf152
 v64 := Tryz.zeroValue152
 i64 := by kernel_rfl
 t66 := Tryz.underlying165
 a66 := Tryz.isAgg165
 z66 := Tryz.sizeOf165
 v66 := Tryz.zeroValue165
 i66 := by kernel_rfl
 t67 := Tryz.underlying166
 a67 := Tryz.isAgg166
 z67 := Tryz.sizeOf166
 v67 := Tryz.zeroValue166
 i67 := by kernel_rfl
 t75 := Tryz.underlying178
 a75 := Tryz.isAgg178
 z75 := Tryz.sizeOf178
 v75 := Tryz.zeroValue178
 i75 := by kernel_rfl
 t76 := Tryz.underlying179
 a76 := Tryz.isAgg179
 z76 := Tryz.sizeOf179
 v76 := Tryz.zeroValue179
 i76 := by kernel_rfl
 t77 := Tryz.underlying180
 a77 := Tryz.isAgg180
 z77 := Tryz.sizeOf180
 v77 := Tryz.zeroValue180
 i77 := by kernel_rfl
 t78 := Tryz.underlying181
 a78 := Tryz.isAgg181
 z78 := Tryz.sizeOf181
 v78 := Tryz.zeroValue181
 i78 := by kernel_rfl
 t79 := Tryz.underlying182
 a79 := Tryz.isAgg182
 z79 := Tryz.sizeOf182
 v79 := Tryz.zeroValue182
 i79 := by kernel_rfl
 t80 := Tryz.underlying183
 a80 := Tryz.isAgg183
 z80 := Tryz.sizeOf183
 v80 := Tryz.zeroValue183
 i80 := by kernel_rfl
 t82 := Tryz.underlying185
 a82 := Tryz.isAgg185
 z82 := Tryz.sizeOf185
 v82 := Tryz.zeroValue185
 i82 := by kernel_rfl }
end Go.Proofs.YtodkhjihkkmplaaGreat

namespace Go.Proofs.YtodkhjihkkmplaaGreat
set_option linter.unusedVariables false
set_option linter.unusedSimpArgs false
namespace Rv

/-- The smaller of two rationals, as the code tells it. -/
def mn (a b : Rat) : Rat := if b < a then b else a
/-- What has been taken, what is left to take, the price. -/
structure St where
 tk : List Rat
 rest : Rat
 price : Int
def gt (l : List Rat) (i : Nat) : Rat := l[i]?.getD 0
def rstep (on : Nat → Bool) (rm : Nat → Rat) (sp : Nat → Int) (s : St) (i : Nat) : St :=
 if on i then ⟨s.tk.set i (mn (rm i) s.rest), s.rest - mn (rm i) s.rest, if 0 < mn (rm i) s.rest then sp i else s.price⟩ else s
def rfill (on : Nat → Bool) (rm : Nat → Rat) (sp : Nat → Int) (ord : List Nat) (s : St) : St := ord.foldl (rstep on rm sp) s
theorem rfill_snoc (on : Nat → Bool) (rm : Nat → Rat) (sp : Nat → Int) (ord : List Nat) (i : Nat) (s : St) : rfill on rm sp (ord ++ [i]) s = rstep on rm sp (rfill on rm sp ord s) i := by simp [rfill]
def st0 (n : Nat) (need : Rat) : St := ⟨List.replicate n 0, need, 0⟩
/-- The order of the units. -/
def Bef (sp : Nat → Int) (i j : Nat) : Prop := sp i < sp j ∨ (sp i = sp j ∧ i < j)
def Ord (sp : Nat → Int) (n : Nat) (ord : List Nat) : Prop := ord.Perm (List.range n) ∧ ord.Pairwise (Bef sp)
theorem Bef.asymm {sp : Nat → Int} {i j : Nat} (h : Bef sp i j) (h' : Bef sp j i) : False := by unfold Bef at *; omega
theorem ord_uniq {sp : Nat → Int} : ∀ {a b : List Nat}, a.Perm b → a.Pairwise (Bef sp) → b.Pairwise (Bef sp) → a = b
 | [], b, h, _, _ => h.nil_eq
 | x :: a, [], h, _, _ => absurd h.length_eq (by simp)
 | x :: a, y :: b, h, ha, hb => by
  have ha' := List.pairwise_cons.1 ha
  have hb' := List.pairwise_cons.1 hb
  by_cases e : x = y
  ·subst e
   rw [ord_uniq (List.perm_cons x |>.1 h) ha'.2 hb'.2]
  ·have h1 : x ∈ b := by
    have : x ∈ y :: b := h.subset (List.mem_cons_self ..)
    rcases List.mem_cons.1 this with h | h
    ·exact absurd h e
    ·exact h
   have h2 : y ∈ a := by
    have : y ∈ x :: a := h.symm.subset (List.mem_cons_self ..)
    rcases List.mem_cons.1 this with h | h
    ·exact absurd h.symm e
    ·exact h
   exact (Bef.asymm (ha'.1 y h2) (hb'.1 x h1)).elim
theorem Ord.uniq {sp : Nat → Int} {n : Nat} {a b : List Nat} (h : Ord sp n a) (h' : Ord sp n b) : a = b := ord_uniq (h.1.trans h'.1.symm) h.2 h'.2

/-- Sums. -/
def sumF (f : Nat → Rat) : Nat → Rat
 | 0 => 0
 | n + 1 => sumF f n + f n
theorem sumF_congr {f g : Nat → Rat} : ∀ {n : Nat}, (∀ i, i < n → f i = g i) → sumF f n = sumF g n
 | 0, _ => rfl
 | n + 1, h => by rw [sumF, sumF, sumF_congr fun i hi => h i (by omega), h n (by omega)]
theorem sumF_zero : ∀ n, sumF (fun _ => 0) n = 0
 | 0 => rfl
 | n + 1 => by rw [sumF, sumF_zero n]; grind
theorem sumF_upd {f g : Nat → Rat} {i : Nat} : ∀ {n : Nat}, i < n → (∀ j, j < n → j ≠ i → g j = f j) → sumF g n = sumF f n - f i + g i
 | 0, h, _ => by omega
 | n + 1, h, he => by
  rw [sumF, sumF]
  by_cases hi : i = n
  ·subst hi
   rw [sumF_congr (g := f) fun j hj => he j (by omega) (by omega)]
   grind
  ·rw [sumF_upd (show i < n by omega) fun j hj hne => he j (by omega) hne, he n (by omega) (by omega)]
   grind
theorem sumF_nonneg {f : Nat → Rat} : ∀ {n : Nat}, (∀ i, i < n → 0 ≤ f i) → 0 ≤ sumF f n
 | 0, _ => by rw [sumF]; grind
 | n + 1, h => by
  have := sumF_nonneg (f := f) (n := n) fun i hi => h i (by omega)
  have := h n (by omega)
  rw [sumF]
  grind

theorem gt_set {l : List Rat} {i j : Nat} {x : Rat} (hi : i < l.length) : gt (l.set i x) j = if j = i then x else gt l j := by
 unfold gt
 rw [List.getElem?_set]
 by_cases h : i = j
 ·subst h; simp [hi]
 ·rw [if_neg h, if_neg (fun e => h e.symm)]
theorem gt_rep {n i : Nat} : gt (List.replicate n 0) i = 0 := by
 unfold gt
 rw [List.getElem?_replicate]
 split <;> rfl

/-- What holds while units are taken. -/
structure Inv (on : Nat → Bool) (rm : Nat → Rat) (sp : Nat → Int) (n : Nat) (need : Rat) (done : List Nat) (s : St) : Prop where
 len : s.tk.length = n
 rest : 0 ≤ s.rest
 new : ∀ i, i ∉ done → gt s.tk i = 0
 lo : ∀ i, 0 ≤ gt s.tk i
 hi : ∀ i, i ∈ done → gt s.tk i ≤ rm i
 sum : sumF (gt s.tk) n + s.rest = need
 full : 0 < s.rest → ∀ i, i ∈ done → gt s.tk i = rm i
 pr : s.price = 0 ∨ ∃ i, i ∈ done ∧ 0 < gt s.tk i ∧ s.price = sp i
 prlo : ∀ i, i ∈ done → 0 < gt s.tk i → sp i ≤ s.price
 prpos : 0 ≤ s.price
 bel : ∀ i j, i ∈ done → j ∈ done → sp i < sp j → 0 < gt s.tk j → gt s.tk i = rm i
theorem Inv.start (on : Nat → Bool) (rm : Nat → Rat) (sp : Nat → Int) (n : Nat) {need : Rat} (h : 0 ≤ need) : Inv on rm sp n need [] (st0 n need) where
 len := by simp [st0]
 rest := h
 new := fun i _ => gt_rep
 lo := fun i => by rw [st0, gt_rep]; grind
 hi := fun i hi => absurd hi (by simp)
 sum := by
  have : sumF (gt (st0 n need).tk) n = 0 := (sumF_congr (g := fun _ => 0) fun i _ => gt_rep).trans (sumF_zero n)
  rw [this]
  simp only [st0]
  grind
 full := fun _ i hi => absurd hi (by simp)
 pr := Or.inl rfl
 prlo := fun i hi => absurd hi (by simp)
 prpos := Int.le_refl _
 bel := fun i j hi => absurd hi (by simp)
theorem Inv.step {on : Nat → Bool} {rm : Nat → Rat} {sp : Nat → Int} {n : Nat} {need : Rat} {done : List Nat} {s : St} (h : Inv on rm sp n need done s) {i : Nat} (hi : i < n) (hnew : i ∉ done) (hsp : ∀ j, j ∈ done → sp j ≤ sp i) (hrm : 0 ≤ rm i) (hoff : on i = false → rm i = 0) (hs0 : 0 ≤ sp i) :
  Inv on rm sp n need (done ++ [i]) (rstep on rm sp s i) := by
 have h0 := h.new i hnew
 have mem : ∀ j, j ∈ done ++ [i] ↔ j ∈ done ∨ j = i := fun j => by simp
 unfold rstep
 cases ho : on i with
 | false =>
  have hr0 := hoff ho
  simp only [Bool.false_eq_true, if_false]
  refine ⟨h.len, h.rest, fun j hj => h.new j fun hh => hj ((mem j).2 (Or.inl hh)), h.lo, fun j hj => ?_, h.sum, fun hp j hj => ?_, ?_, fun j hj hp => ?_, h.prpos, fun j k hj hk hjk hp => ?_⟩
  ·rcases (mem j).1 hj with hj | rfl
   ·exact h.hi j hj
   ·rw [h0, hr0]; grind
  ·rcases (mem j).1 hj with hj | rfl
   ·exact h.full hp j hj
   ·rw [h0, hr0]
  ·rcases h.pr with hh | ⟨j, h1, h2, h3⟩
   ·exact Or.inl hh
   ·exact Or.inr ⟨j, (mem j).2 (Or.inl h1), h2, h3⟩
  ·rcases (mem j).1 hj with hj | rfl
   ·exact h.prlo j hj hp
   ·rw [h0] at hp; grind
  ·rcases (mem k).1 hk with hk | rfl
   ·rcases (mem j).1 hj with hj | rfl
    ·exact h.bel j k hj hk hjk hp
    ·rw [h0, hr0]
   ·rw [h0] at hp; grind
 | true =>
  simp only [if_true]
  have hr := h.rest
  have g : ∀ j, gt (s.tk.set i (mn (rm i) s.rest)) j = if j = i then mn (rm i) s.rest else gt s.tk j := fun j => gt_set (by rw [h.len]; exact hi)
  have hne : ∀ j, j ∈ done → j ≠ i := fun j hj e => hnew (e ▸ hj)
  have hm1 : mn (rm i) s.rest ≤ rm i := by unfold mn; grind
  have hm2 : mn (rm i) s.rest ≤ s.rest := by unfold mn; grind
  have hm3 : 0 ≤ mn (rm i) s.rest := by unfold mn; grind
  have hm4 : mn (rm i) s.rest < s.rest → mn (rm i) s.rest = rm i := by unfold mn; grind
  generalize mn (rm i) s.rest = t at *
  refine ⟨by rw [List.length_set]; exact h.len, by simp only; grind, fun j hj => ?_, fun j => ?_, fun j hj => ?_, ?_, fun hp j hj => ?_, ?_, fun j hj hp => ?_, ?_, fun j k hj hk hjk hp => ?_⟩
  ·rw [g, if_neg (fun e => hj ((mem j).2 (Or.inr e)))]
   exact h.new j fun hh => hj ((mem j).2 (Or.inl hh))
  ·rw [g]
   split
   ·exact hm3
   ·exact h.lo j
  ·rw [g]
   split
   ·rename_i e; rw [e]; exact hm1
   ·rename_i e
    rcases (mem j).1 hj with hj | hj
    ·exact h.hi j hj
    ·exact absurd hj e
  ·have hu := sumF_upd (f := gt s.tk) (g := gt (s.tk.set i t)) hi fun j _ hne => by rw [g, if_neg hne]
   rw [hu, g, if_pos rfl, h0]
   have := h.sum
   simp only
   grind
  ·have hrp : 0 < s.rest - t := hp
   rw [g]
   split
   ·rename_i e; rw [e]; exact hm4 (by grind)
   ·rename_i e
    rcases (mem j).1 hj with hj | hj
    ·exact h.full (by grind) j hj
    ·exact absurd hj e
  ·by_cases ht : 0 < t
   ·right
    refine ⟨i, (mem i).2 (Or.inr rfl), by rw [g, if_pos rfl]; exact ht, by simp only [ht, if_true]⟩
   ·rcases h.pr with hh | ⟨j, h1, h2, h3⟩
    ·left; simp only [ht, if_false]; exact hh
    ·right
     exact ⟨j, (mem j).2 (Or.inl h1), by rw [g, if_neg (hne j h1)]; exact h2, by simp only [ht, if_false]; exact h3⟩
  ·rw [g] at hp
   by_cases ht : 0 < t
   ·simp only [ht, if_true]
    rcases (mem j).1 hj with hj | rfl
    ·exact hsp j hj
    ·exact Int.le_refl _
   ·simp only [ht, if_false]
    split at hp
    ·exact absurd hp ht
    ·rename_i e
     rcases (mem j).1 hj with hj | hj
     ·exact h.prlo j hj hp
     ·exact absurd hj e
  ·by_cases ht : 0 < t
   ·simp only [ht, if_true]; exact hs0
   ·simp only [ht, if_false]; exact h.prpos
  ·rw [g] at hp
   rcases (mem j).1 hj with hj | rfl
   ·rw [g, if_neg (hne j hj)]
    split at hp
    ·exact h.full (by grind) j hj
    ·rename_i e
     rcases (mem k).1 hk with hk | hk
     ·exact h.bel j k hj hk hjk hp
     ·exact absurd hk e
   ·rcases (mem k).1 hk with hk | rfl
    ·have := hsp k hk
     omega
    ·omega

/-- The facts on the units: no room is negative, a unit that is off has none, no price is negative. -/
structure Good (on : Nat → Bool) (rm : Nat → Rat) (sp : Nat → Int) (n : Nat) : Prop where
 grm : ∀ i, i < n → 0 ≤ rm i
 goff : ∀ i, i < n → on i = false → rm i = 0
 gsp : ∀ i, i < n → 0 ≤ sp i
theorem inv_take {on : Nat → Bool} {rm : Nat → Rat} {sp : Nat → Int} {n : Nat} {need : Rat} {ord : List Nat} (hg : Good on rm sp n) (ho : Ord sp n ord) (hn : 0 ≤ need) : ∀ k, k ≤ ord.length → Inv on rm sp n need (ord.take k) (rfill on rm sp (ord.take k) (st0 n need))
 | 0, _ => Inv.start on rm sp n hn
 | k + 1, hk => by
  have hlt : k < ord.length := by omega
  rw [List.take_succ_eq_append_getElem hlt, rfill_snoc]
  have hin : ord[k] < n := List.mem_range.1 (ho.1.subset (List.getElem_mem hlt))
  have hpw := List.pairwise_iff_getElem.1 ho.2
  have hb : ∀ j, j ∈ ord.take k → Bef sp j ord[k] := fun j hj => by
   obtain ⟨i, hi, rfl⟩ := List.mem_iff_getElem.1 hj
   rw [List.length_take] at hi
   rw [List.getElem_take]
   exact hpw i k (by omega) hlt (by omega)
  exact (inv_take hg ho hn k (by omega)).step hin (fun hh => (hb _ hh).asymm (hb _ hh)) (fun j hj => by have := hb j hj; unfold Bef at this; omega) (hg.grm _ hin) (hg.goff _ hin) (hg.gsp _ hin)

theorem Ord.mem {sp : Nat → Int} {n i : Nat} {ord : List Nat} (h : Ord sp n ord) (hi : i < n) : i ∈ ord := h.1.symm.subset (List.mem_range.2 hi)




end Rv
end Go.Proofs.YtodkhjihkkmplaaGreat