/-
Share of package stack at a whole quantity. Plain law of merged stacks: rotated curves, one more curve, all of a stack. willing of package step, at any price. Long of layer 23: rationals larger than the statements consider. Long of layer 23 on rows of any length. Rationals of growing size: every operation rises by one level. No statement of the seat is proved here; no conditions beyond those of each theorem.
-/
import Derived.Test.YtjajigkacccdgaaGreatTcBF
import Derived.Test.YtjajigkacccdgaaGreatTcBB
import Derived.Test.YtjajigkacccdgaaGreatTcAV
import Derived.Test.YtjajigkacccdgaaGreatTcBE
namespace Go.Proofs.YtjajigkacccdgaaGreat
set_option linter.unusedVariables false
set_option linter.unusedSimpArgs false
open Go.RowKit
open Wd
attribute [local go_sem ↓] Go.wp_at_zero Go.wp_at_succ

/-- What is left of t when the last j curves have given, and what the next gives. -/
def shRest (xs : List Int) (n : Nat) (t : Int) : Nat → Int
 | 0 => t
 | j + 1 => shRest xs n t j - min (shRest xs n t j) (xs[n - 1 - j]?.getD 0)
def shPart (xs : List Int) (n : Nat) (t : Int) (j : Nat) : Int := min (shRest xs n t j) (xs[n - 1 - j]?.getD 0)
def shRow (xs : List Int) (n : Nat) (t : Int) (ys : List Int) : Nat → List Int
 | 0 => ys
 | j + 1 => (shRow xs n t ys j).set (n - 1 - j) ((shRow xs n t ys j)[n - 1 - j]?.getD 0 + shPart xs n t j)
def shAll (lv : List St.Lv) (n : Nat) (z : Int) : Nat → List Int
 | 0 => List.replicate n 0
 | i + 1 => shRow (lv[i]?.getD Lv0).2.2 n (partI (lvQ lv) z i) (shAll lv n z i) n
theorem shRow_len (xs : List Int) (n : Nat) (t : Int) (ys : List Int) : ∀ j, (shRow xs n t ys j).length = ys.length
 | 0 => rfl
 | j + 1 => by rw [shRow, List.length_set, shRow_len xs n t ys j]
theorem shAll_len (lv : List St.Lv) (n : Nat) (z : Int) : ∀ i, (shAll lv n z i).length = n
 | 0 => by simp [shAll]
 | i + 1 => by rw [shAll, shRow_len, shAll_len lv n z i]
theorem shRest_bd {xs : List Int} {n : Nat} {t : Int} (hx : ∀ y ∈ xs, 0 ≤ y ∧ y ≤ 1000000) (hl : xs.length = n) (h0 : 0 ≤ t) : ∀ j, j ≤ n → 0 ≤ shRest xs n t j ∧ shRest xs n t j ≤ t
 | 0, _ => ⟨h0, Int.le_refl _⟩
 | j + 1, hj => by
  obtain ⟨i1, i2⟩ := shRest_bd hx hl h0 j (by omega)
  have := hx _ (getD_mem (d := 0) (show n - 1 - j < xs.length by omega))
  rw [shRest]
  omega
theorem shPart_bd {xs : List Int} {n : Nat} {t : Int} (hx : ∀ y ∈ xs, 0 ≤ y ∧ y ≤ 1000000) (hl : xs.length = n) (h0 : 0 ≤ t) {j : Nat} (hj : j < n) : 0 ≤ shPart xs n t j ∧ shPart xs n t j ≤ 1000000 := by
 obtain ⟨i1, i2⟩ := shRest_bd hx hl h0 j (by omega)
 have := hx _ (getD_mem (d := 0) (show n - 1 - j < xs.length by omega))
 unfold shPart
 omega
def BdR (c : Int) (ys : List Int) : Prop := ∀ i : Nat, 0 ≤ ys[i]?.getD 0 ∧ ys[i]?.getD 0 ≤ c
theorem shRow_bd {xs : List Int} {n : Nat} {t c : Int} {ys : List Int} (hx : ∀ y ∈ xs, 0 ≤ y ∧ y ≤ 1000000) (hl : xs.length = n) (hy : ys.length = n) (h0 : 0 ≤ t) (hc : BdR c ys) :
  ∀ j, j ≤ n → (∀ i : Nat, 0 ≤ (shRow xs n t ys j)[i]?.getD 0 ∧ (shRow xs n t ys j)[i]?.getD 0 ≤ c + 1000000) ∧ ∀ i : Nat, i < n - j → (shRow xs n t ys j)[i]?.getD 0 = ys[i]?.getD 0
 | 0, _ => ⟨fun i => by have := hc i; simp only [shRow]; omega, fun i _ => rfl⟩
 | j + 1, hj => by
  obtain ⟨i1, i2⟩ := shRow_bd hx hl hy h0 hc j (by omega)
  have hp := shPart_bd hx hl h0 (show j < n by omega)
  have hlen := shRow_len xs n t ys j
  constructor
  ·intro i
   rw [shRow, List.getElem?_set]
   split
   ·rename_i he
    subst he
    have e := i2 (n - 1 - j) (by omega)
    have := hc (n - 1 - j)
    rw [if_pos (by omega)]
    simp only [Option.getD_some]
    omega
   ·exact i1 i
  ·intro i hi
   rw [shRow, List.getElem?_set_ne (by omega)]
   exact i2 i (by omega)
theorem shAll_bd {up : Bool} {n : Nat} {lv : List St.Lv} (hv : VL up n lv) {z : Int} (h0 : ∀ i, i < lv.length → 0 ≤ partI (lvQ lv) z i) : ∀ i, i ≤ lv.length → BdR (1000000 * (i : Int)) (shAll lv n z i)
 | 0, _ => fun i => by simp [shAll, List.getElem?_replicate]; split <;> simp
 | i + 1, hi => fun k => by
  have ih := shAll_bd hv h0 i (by omega)
  have hp := hv.parts _ (getD_mem (d := Lv0) (show i < lv.length by omega))
  have := (shRow_bd hp.2 hp.1 (shAll_len lv n z i) (h0 i (by omega)) ih n (Nat.le_refl _)).1 k
  rw [shAll]
  have e : (1000000 : Int) * ((i + 1 : Nat) : Int) = 1000000 * (i : Int) + 1000000 := by omega
  rw [e]
  exact this
def castR (ys : List Int) : List Rat := ys.map fun y => ((y : Int) : Rat)
theorem castR_get (ys : List Int) (i : Nat) : (castR ys)[i]?.getD 0 = ((ys[i]?.getD 0 : Int) : Rat) := by
 unfold castR
 rw [List.getElem?_map]
 cases ys[i]? <;> rfl
theorem castR_set (ys : List Int) (i : Nat) (y : Int) : castR (ys.set i y) = (castR ys).set i ((y : Int) : Rat) := by
 unfold castR
 rw [List.map_set]
/-- A canonical rational, wherever it lies. -/
def WQ (w : World) (q : Rat) (A : Option Addr) (k c : Nat) (A' : Option Addr) (k' c' : Nat) : Prop := k ≤ c ∧ k' ≤ c' ∧ Wat w A k (digs q.num.natAbs) ∧ Wat w A' k' (denW q.den)
section
variable {w w' : World} {q : Rat} {A A' : Option Addr} {k c k' c' : Nat}
theorem WQ.below (h : WQ w q A k c A' k' c') (hb : Below w.heap.size w w') : WQ w' q A k c A' k' c' := ⟨h.1, h.2.1, h.2.2.1.below hb, h.2.2.2.below hb⟩
theorem WQ.put4 {g o : Nat} {a b : Bool} {B B' : Option Addr} {j d j' d' : Nat} {t : TypeId} {cs : Array Value} (h : WQ w q A k c A' k' c') (hb : Blk w g t cs) (hn : NoInt cs) : WQ (qst w g o a b B B' j d j' d') q A k c A' k' c' :=
 ⟨h.1, h.2.1, h.2.2.1.put4 hb hn, h.2.2.2.put4 hb hn⟩
theorem WQ.at (h : WQ w q A k c A' k' c') (hn : q.num.natAbs < 1152921504606846976) (hd : q.den < 2) : QAt 1152921504606846976 2 w (decide (q.num < 0)) A k c false A' k' c' q :=
 qat_len wok_small (by omega) (by omega) h.1 h.2.1 h.2.2.1 h.2.2.2 hn hd
end
theorem qaddI (x y : Int) (hx : x.natAbs < 1000000000000) (hy : y.natAbs < 1000000000000) {W : World} {B B' B2 B2' : Option Addr} {bk bc bk' bc' j d j' d' : Nat} (h1 : WQ W (x : Rat) B bk bc B' bk' bc') (h2 : WQ W (y : Rat) B2 j d B2' j' d') :
  Calls Tryz.prog 42 #[.agg #[.bool (decide (((x : Int) : Rat).num < 0)), .slice B bk bc, .bool false, .slice B' bk' bc'], .agg #[.bool (decide (((y : Int) : Rat).num < 0)), .slice B2 j d, .bool false, .slice B2' j' d']] W (RetQ W ((x + y : Int) : Rat)) := by
 have := qadd_any 4611686018427387904 1152921504606846976 2 wok_small (by omega) (by omega) _ false _ false B B' B2 B2' bk bc bk' bc' j d j' d' (x : Rat) (y : Rat) W (h1.at (by rw [Rat.num_intCast]; omega) (by rw [Rat.den_intCast]; omega)) (h2.at (by rw [Rat.num_intCast]; omega) (by rw [Rat.den_intCast]; omega))
 rwa [← Rat.intCast_add] at this
theorem qsubI (x y : Int) (hx : x.natAbs < 1000000000000) (hy : y.natAbs < 1000000000000) {W : World} {B B' B2 B2' : Option Addr} {bk bc bk' bc' j d j' d' : Nat} (h1 : WQ W (x : Rat) B bk bc B' bk' bc') (h2 : WQ W (y : Rat) B2 j d B2' j' d') :
  Calls Tryz.prog 55 #[.agg #[.bool (decide (((x : Int) : Rat).num < 0)), .slice B bk bc, .bool false, .slice B' bk' bc'], .agg #[.bool (decide (((y : Int) : Rat).num < 0)), .slice B2 j d, .bool false, .slice B2' j' d']] W (RetQ W ((x - y : Int) : Rat)) := by
 have := qsub_any 4611686018427387904 1152921504606846976 2 wok_small (by omega) (by omega) _ false _ false B B' B2 B2' bk bc bk' bc' j d j' d' (x : Rat) (y : Rat) W (h1.at (by rw [Rat.num_intCast]; omega) (by rw [Rat.den_intCast]; omega)) (h2.at (by rw [Rat.num_intCast]; omega) (by rw [Rat.den_intCast]; omega))
 rwa [← Rat.intCast_sub] at this
theorem qminI (x y : Int) (hx : x.natAbs < 1000000000000) (hy : y.natAbs < 1000000000000) {W : World} {B B' B2 B2' : Option Addr} {bk bc bk' bc' j d j' d' : Nat} (h1 : WQ W (x : Rat) B bk bc B' bk' bc') (h2 : WQ W (y : Rat) B2 j d B2' j' d') :
  Calls Tryz.prog 85 #[.agg #[.bool (decide (((x : Int) : Rat).num < 0)), .slice B bk bc, .bool false, .slice B' bk' bc'], .agg #[.bool (decide (((y : Int) : Rat).num < 0)), .slice B2 j d, .bool false, .slice B2' j' d']] W (RetQ W ((min x y : Int) : Rat)) := by
 have := qless_any 4611686018427387904 1152921504606846976 2 wok_small (by omega) (by omega) (h1.at (by rw [Rat.num_intCast]; omega) (by rw [Rat.den_intCast]; omega)) h2.1 h2.2.1 h2.2.2.1 h2.2.2.2 (by omega) (by omega) (by omega)
 rwa [lessQ_whole] at this

end Go.Proofs.YtjajigkacccdgaaGreat

namespace Go.Proofs.YtjajigkacccdgaaGreat
set_option linter.unusedVariables false
set_option linter.unusedSimpArgs false
open Go.RowKit
open Wd

theorem sumI_app : ∀ (xs ys : List Int), sumI (xs ++ ys) = sumI xs + sumI ys
 | [], ys => by simp [sumI]
 | x :: xs, ys => by rw [List.cons_append, sumI, sumI, sumI_app xs ys]; omega
theorem sumI_zero : ∀ {xs : List Int}, (∀ x ∈ xs, x = 0) → sumI xs = 0
 | [], _ => rfl
 | x :: xs, h => by rw [sumI, h x (List.mem_cons_self ..), sumI_zero fun y hy => h y (List.mem_cons_of_mem _ hy)]; rfl
theorem sumI_map_add {α : Type} (f g : α → Int) : ∀ l : List α, sumI (l.map fun x => f x + g x) = sumI (l.map f) + sumI (l.map g)
 | [] => rfl
 | x :: l => by rw [List.map_cons, sumI, sumI_map_add f g l, List.map_cons, sumI, List.map_cons, sumI]; omega
/-- One price among others that differ. -/
theorem sumI_one {α : Type} (key : α → Int) (q : Int) : ∀ {l : List α} {p : Int}, (l.map key).Nodup → p ∈ l.map key → sumI (l.map fun x => if p = key x then q else 0) = q
 | [], _, _, h => by simp at h
 | x :: l, p, hn, h => by
  rw [List.map_cons, List.nodup_cons] at hn
  rw [List.map_cons, sumI]
  by_cases e : p = key x
  ·rw [if_pos e, sumI_zero]
   ·omega
   ·intro y hy
    obtain ⟨z, hz, rfl⟩ := List.mem_map.1 hy
    exact if_neg fun e2 => hn.1 (List.mem_map.2 ⟨z, hz, by rw [← e2, e]⟩)
  ·rw [if_neg e]
   rw [List.map_cons] at h
   rcases List.mem_cons.1 h with h | h
   ·exact absurd h e
   ·rw [sumI_one key q hn.2 h]; omega







theorem ckF_zero {up : Bool} : ∀ {ls : List (List (Int × Int))} {k : Nat}, (∀ l ∈ ls, chk up l = 0) → (ckF up k ls).2 = 0
 | [], _, _ => rfl
 | x :: ls, k, h => by
  rw [ckF, if_neg (by rw [h x (List.mem_cons_self ..)]; simp)]
  exact ckF_zero fun l hl => h l (List.mem_cons_of_mem _ hl)
theorem ckC_iff {up : Bool} {ls : List (List (Int × Int))} : (ckC up ls).2 = 0 ↔ ls.length ≤ 16 ∧ ∀ l ∈ ls, chk up l = 0 := by
 constructor
 ·intro h
  have := ckC_good h
  exact ⟨this.1, this.2.1⟩
 ·rintro ⟨h1, h2⟩
  unfold ckC
  rw [if_neg (by omega)]
  exact ckF_zero h2

namespace St
theorem tri_price : ∀ {ls : List (List (Int × Int))} {k : Nat} {p : Int}, (∃ t ∈ tri k ls, t.2.2 = p) ↔ ∃ l ∈ ls, ∃ s ∈ l, s.2 = p
 | [], _, _ => by simp [tri]
 | l :: ls, k, p => by
  have ih := tri_price (ls := ls) (k := k + 1) (p := p)
  constructor
  ·rintro ⟨t, ht, e⟩
   rw [tri, List.mem_append] at ht
   rcases ht with ht | ht
   ·obtain ⟨s, hs, rfl⟩ := List.mem_map.1 ht
    exact ⟨l, List.mem_cons_self .., s, hs, e⟩
   ·obtain ⟨l', hl', r⟩ := ih.1 ⟨t, ht, e⟩
    exact ⟨l', List.mem_cons_of_mem _ hl', r⟩
  ·rintro ⟨l', hl', s, hs, e⟩
   rcases List.mem_cons.1 hl' with rfl | hl'
   ·exact ⟨(k, s.1, s.2), by rw [tri, List.mem_append]; exact Or.inl (List.mem_map.2 ⟨s, hs, rfl⟩), e⟩
   ·obtain ⟨t, ht, e2⟩ := ih.2 ⟨l', hl', s, hs, e⟩
    exact ⟨t, by rw [tri, List.mem_append]; exact Or.inr ht, e2⟩
theorem IsLv.nodup {up : Bool} {n : Nat} {T : List Tr} {lv : List Lv} (h : IsLv up n T lv) : (lv.map (·.1)).Nodup := h.1.imp fun {a b} hab e => by subst e; exact ltU_irr hab














end St
end Go.Proofs.YtjajigkacccdgaaGreat
namespace Go.Proofs.YtjajigkacccdgaaGreat
set_option linter.unusedVariables false
set_option linter.unusedSimpArgs false
open Go.RowKit
open Wd
/-- A rational in any form, of any size. -/
def QArg (w : World) (an : Bool) (aA : Option Addr) (ak ac : Nat) (an' : Bool) (aA' : Option Addr) (ak' ac' : Nat) (q : Rat) : Prop := ∃ Nn Nd, QAt Nn Nd w an aA ak ac an' aA' ak' ac' q
theorem QArg.below {w w' : World} {an an' : Bool} {aA aA' : Option Addr} {ak ac ak' ac' : Nat} {q : Rat} (h : QArg w an aA ak ac an' aA' ak' ac' q) (hb : Below w.heap.size w w') : QArg w' an aA ak ac an' aA' ak' ac' q := by
 obtain ⟨Nn, Nd, h⟩ := h
 exact ⟨Nn, Nd, h.below hb⟩
theorem QAt.more {Nn Nd Mn Md : Nat} {w : World} {an an' : Bool} {aA aA' : Option Addr} {ak ac ak' ac' : Nat} {q : Rat} (h : QAt Nn Nd w an aA ak ac an' aA' ak' ac' q) (hn : Nn ≤ Mn) (hd : Nd ≤ Md) : QAt Mn Md w an aA ak ac an' aA' ak' ac' q := by
 obtain ⟨na, da, h1, h2, h3, h4⟩ := h
 exact ⟨na, da, h1, by omega, by omega, h4⟩
theorem qcmp_arg (an an' bn bn' : Bool) (aA aA' bA bA' : Option Addr) (ak ac ak' ac' bk bc bk' bc' : Nat) (qa qb : Rat) (w : World) (ha : QArg w an aA ak ac an' aA' ak' ac' qa) (hb : QArg w bn bA bk bc bn' bA' bk' bc' qb) :
  Calls Tryz.prog 43 #[.agg #[.bool an, .slice aA ak ac, .bool an', .slice aA' ak' ac'], .agg #[.bool bn, .slice bA bk bc, .bool bn', .slice bA' bk' bc']] w fun e w' => e = .returned (.int .i64 (cmpQ qa qb)) ∧ Below w.heap.size w w' := by
 obtain ⟨N1, D1, h1⟩ := ha
 obtain ⟨N2, D2, h2⟩ := hb
 exact qcmp_any an an' bn bn' aA aA' bA bA' ak ac ak' ac' bk bc bk' bc' qa qb w (h1.more (Mn := max N1 N2) (Md := max D1 D2) (by omega) (by omega)) (h2.more (by omega) (by omega))
theorem WQ.arg {w : World} {z : Int} {A A' : Option Addr} {k c k' c' : Nat} (h : WQ w (z : Rat) A k c A' k' c') (hz : z.natAbs < 1000000000000) : QArg w (decide (((z : Int) : Rat).num < 0)) A k c false A' k' c' (z : Rat) :=
 ⟨_, _, h.at (by rw [Rat.num_intCast]; omega) (by rw [Rat.den_intCast]; omega)⟩

/-- The quantities on one side of a price, without and with those at it. -/
def wlL (side : Int) (q : Rat) (l : List (Int × Int)) : Int := sumI (l.map fun s => if cmpQ (s.2 : Rat) q = side then s.1 else 0)
def wlM (side : Int) (q : Rat) (l : List (Int × Int)) : Int := sumI (l.map fun s => if cmpQ (s.2 : Rat) q = side ∨ cmpQ (s.2 : Rat) q = 0 then s.1 else 0)
theorem wlL_snoc {side : Int} {q : Rat} {l : List (Int × Int)} {k : Nat} (hk : k < l.length) : wlL side q (l.take (k + 1)) = wlL side q (l.take k) + if cmpQ (((l[k]?.getD (0, 0)).2 : Int) : Rat) q = side then (l[k]?.getD (0, 0)).1 else 0 := by
 unfold wlL
 rw [take_snocS hk, List.map_append]
 exact sumI_snoc _ _
theorem wlM_snoc {side : Int} {q : Rat} {l : List (Int × Int)} {k : Nat} (hk : k < l.length) : wlM side q (l.take (k + 1)) = wlM side q (l.take k) + if cmpQ (((l[k]?.getD (0, 0)).2 : Int) : Rat) q = side ∨ cmpQ (((l[k]?.getD (0, 0)).2 : Int) : Rat) q = 0 then (l[k]?.getD (0, 0)).1 else 0 := by
 unfold wlM
 rw [take_snocS hk, List.map_append]
 exact sumI_snoc _ _
theorem wl_bd : ∀ {l : List (Int × Int)} (side : Int) (q : Rat), (∀ s ∈ l, ¬ Bad s.1 s.2) → (0 ≤ wlL side q l ∧ wlL side q l ≤ 1000000 * (l.length : Int)) ∧ (0 ≤ wlM side q l ∧ wlM side q l ≤ 1000000 * (l.length : Int))
 | [], side, q, _ => by simp [wlL, wlM, sumI]
 | s :: l, side, q, h => by
  have h1 := h s (List.mem_cons_self ..)
  have h2 := wl_bd (l := l) side q fun y hy => h y (List.mem_cons_of_mem _ hy)
  unfold Bad at h1
  unfold wlL wlM at *
  rw [List.map_cons, List.map_cons, sumI, sumI, List.length_cons]
  constructor <;> split <;> omega

set_option maxRecDepth 100000 in
set_option maxHeartbeats 8000000 in
theorem willing_any (side : Int) (A : Option Addr) (n c : Nat) (l : List (Int × Int)) (an an' : Bool) (aA aA' : Option Addr) (ak ac ak' ac' : Nat) (q : Rat) (w : World) (h : StAt w A n l) (hq : QArg w an aA ak ac an' aA' ak' ac' q) (hn : n ≤ 3) (hb : ∀ s ∈ l, ¬ Bad s.1 s.2) :
  Calls Tryz.prog 199 #[.slice A n c, .agg #[.bool an, .slice aA ak ac, .bool an', .slice aA' ak' ac'], .int .i64 side] w fun e w' => e = .returned (.tuple #[.int .i64 (wlL side q l), .int .i64 (wlM side q l)]) ∧ Below w.heap.size w w' := by
 have HX := Lib.hid h
 have HLN := Lib.hid h.1
 have HB := Lib.hid hb
 have HQ := Lib.hid hq
 clear h hb hq
 go_enter Tryz.func199, Tryz.ntmps199
 go_wp2_with fail
 have hbx := Blk.new w 42 #[.bool an, .slice aA ak ac, .bool an', .slice aA' ak' ac']
 have hb0 : Below w.heap.size w (w.alloc (.cells #[.bool an, .slice aA ak ac, .bool an', .slice aA' ak' ac'] 42)) := (Below.refl _ _).alloc (Nat.le_refl _) _
 generalize w.alloc (.cells #[.bool an, .slice aA ak ac, .bool an', .slice aA' ak' ac'] 42) = W0 at *
 have HST := Lib.hid (And.intro hb0 hbx)
 clear hb0 hbx
 go_loopw [6, 7, 12] (fun tl tm t wr => ∃ k : Nat, k ≤ n ∧ t = .int .i64 k ∧ tl = .int .i64 (wlL side q (l.take k)) ∧ tm = .int .i64 (wlM side q (l.take k)) ∧ Hid (Below w.heap.size w wr ∧ Blk wr w.heap.size 42 #[.bool an, .slice aA ak ac, .bool an', .slice aA' ak' ac'])) (fun _ _ t _ => n - (intOf t).toNat)
 case atStart => exact ⟨0, Nat.zero_le _, rfl, rfl, rfl, HST.out⟩
 case round =>
  obtain ⟨k, hk, rfl, rfl, rfl, hR⟩ := hrel
  by_cases hlt : k < n
  ·obtain ⟨hBW, hBX⟩ := hR.out
   obtain ⟨b, o, rfl, hb, hc⟩ := HX.out.2.2 (by omega)
   obtain ⟨y0, y1⟩ := hc k hlt
   have hkl : k < l.length := by rw [HLN.out]; exact hlt
   have hbad := HB.out _ (getD_mem (d := ((0, 0) : Int × Int)) hkl)
   have s1 := wlL_snoc (side := side) (q := q) hkl
   have s2 := wlM_snoc (side := side) (q := q) hkl
   obtain ⟨bd1, bd2⟩ := wl_bd (l := l.take k) side q fun s hs => HB.out s (List.mem_of_mem_take hs)
   have hl2 := List.length_take_le k l
   generalize (l[k]?.getD (0, 0)).1 = s at *
   generalize (l[k]?.getD (0, 0)).2 = p at *
   replace y0 := (hBW.cell (p := ⟨b, o + k * 2, none⟩) hb).trans y0
   replace y1 := (hBW.cell (p := ⟨b, o + k * 2 + 1, none⟩) hb).trans y1
   unfold Bad at hbad
   have hFI := fun W => qfromInt64_any p W (by omega) (by omega)
   have hW1 : Below w.heap.size w (wr.alloc (.cells #[.int .i64 s, .int .i64 p] 107)) := hBW.alloc hBW.size _
   have hCM := fun W (hW : Kp (wr.alloc (.cells #[.int .i64 s, .int .i64 p] 107)) W) (A2 A3 : Option Addr) (k2 c2 k3 c3 : Nat) (h2 : WQ W ((p : Int) : Rat) A2 k2 c2 A3 k3 c3) => qcmp_arg _ false an an' A2 A3 aA aA' k2 c2 k3 c3 ak ac ak' ac' ((p : Int) : Rat) q W (h2.arg (by omega)) (HQ.out.below (hW1.trans (Below.mono hW hW1.size)))
   have m1 := Blk.new wr 107 #[.int .i64 s, .int .i64 p]
   have m2 := hBX.alloc (.cells #[.int .i64 s, .int .i64 p] 107)
   have k1 : (0 : Int) ≤ (k : Int) := by omega
   have k2 : (k : Int) < (n : Int) := by omega
   generalize cmpQ ((p : Int) : Rat) q = cv at *
   generalize ((p : Int) : Rat) = pq at *
   generalize wlL side q (l.take k) = vl at *
   generalize wlM side q (l.take k) = vm at *
   have xl : IntKind.i64.wrap (vl + s) = vl + s := IntWalk.i64_in _ (by omega)
   have xm : IntKind.i64.wrap (vm + s) = vm + s := IntWalk.i64_in _ (by omega)
   have HS1 := Lib.hid s1
   have HS2 := Lib.hid s2
   have HFI := Lib.hid hFI
   have HCM := Lib.hid hCM
   have HM := Lib.hid (And.intro hW1 (And.intro m1 m2))
   clear hc hkl hbad bd1 bd2 hl2 s1 s2 hFI hCM hR hBW hBX hW1
   go_wp2_with fail
   have hS : ∀ w', Kp (wr.alloc (.cells #[.int .i64 s, .int .i64 p] 107)) w' → (w'.cell? ⟨wr.heap.size, 1, none⟩ = some (.int .i64 p) ∧ w'.cell? ⟨w.heap.size, 0, none⟩ = some (.bool an) ∧ w'.cell? ⟨w.heap.size, 1, none⟩ = some (.slice aA ak ac) ∧ w'.cell? ⟨w.heap.size, 2, none⟩ = some (.bool an') ∧ w'.cell? ⟨w.heap.size, 3, none⟩ = some (.slice aA' ak' ac')) ∧ Kp (wr.alloc (.cells #[.int .i64 s, .int .i64 p] 107)) w' := fun w' hk =>
    ⟨⟨(hk.blk m1).cell 1, (hk.blk m2).cell 0, (hk.blk m2).cell 1, (hk.blk m2).cell 2, (hk.blk m2).cell 3⟩, hk⟩
   have HS := Lib.hid hS
   have hk0 := Kp.refl (wr.alloc (.cells #[.int .i64 s, .int .i64 p] 107))
   clear hS m1 m2 y0 y1
   generalize wr.alloc (.cells #[.int .i64 s, .int .i64 p] 107) = W at *
   go_region_held3 (fun w' => (w'.cell? ⟨wr.heap.size, 1, none⟩ = some (.int .i64 p) ∧ w'.cell? ⟨w.heap.size, 0, none⟩ = some (.bool an) ∧ w'.cell? ⟨w.heap.size, 1, none⟩ = some (.slice aA ak ac) ∧ w'.cell? ⟨w.heap.size, 2, none⟩ = some (.bool an') ∧ w'.cell? ⟨w.heap.size, 3, none⟩ = some (.slice aA' ak' ac')) ∧ Kp W w')
    (first | (with_reducible refine HS.out _ ?_; with_reducible assumption) | (with_reducible refine HS.out _ (Kp.drew ?_); with_reducible assumption) | (with_reducible refine' HS.out _ (Kp.drew (And.right _)); rotate_left; with_reducible assumption))
    (first
     | (go_at_call 40; have hk := And.right ‹_ ∧ Kp W _›; refine (HFI.out _).mono ?_; rintro e v2 ⟨A2, k2, c2, A3, k3, c3, rfl, h2, h3, hW2, hW3, -, -, hb2⟩; have hk2 := Kp.trans hk hb2; have HWQ := Lib.hid (⟨h2, h3, hW2, hW3⟩ : WQ v2 pq A2 k2 c2 A3 k3 c3); clear hb2 h2 h3 hW2 hW3)
     | (go_at_call 43; have hk := And.right ‹_ ∧ Kp W _›; refine (HCM.out _ hk _ _ _ _ _ _ HWQ.out).mono ?_; rintro e v3 ⟨rfl, hb3⟩; have hk3 := Kp.trans hk hb3; clear hb3))
   have hfin : Below w.heap.size w v3 ∧ Blk v3 w.heap.size 42 #[.bool an, .slice aA ak ac, .bool an', .slice aA' ak' ac'] := ⟨HM.out.1.trans (Below.mono hk3 HM.out.1.size), hk3.blk HM.out.2.2⟩
   have hs0 := (hk3.blk HM.out.2.1).cell 0
   simp at hs0
   have HF := Lib.hid hfin
   clear hfin hk0 hk2 hk3 HS HFI HCM HWQ HM
   by_cases hside : cv = side
   ·have d1 : (cv == side) = true := by simpa using hside
    have e1 := HS1.out
    have e2 := HS2.out
    rw [if_pos hside] at e1
    rw [if_pos (Or.inl hside)] at e2
    have E1 := Lib.hid e1
    have E2 := Lib.hid e2
    clear e1 e2 HS1 HS2 hside
    go_wp2
    go_roundw
    case rel => exact ⟨k + 1, by omega, by go_num, by rw [E1.out], by rw [E2.out], HF.out⟩
    case measure => simp [intOf]; omega
   ·have d1 : (cv == side) = false := beq_false_of_ne hside
    have e1 := HS1.out
    rw [if_neg hside, Int.add_zero] at e1
    have E1 := Lib.hid e1
    by_cases hz : cv = 0
    ·have d2 : (cv == 0) = true := by simpa using hz
     have e2 := HS2.out
     rw [if_pos (Or.inr hz)] at e2
     have E2 := Lib.hid e2
     clear e1 e2 HS1 HS2 hside hz
     go_wp2
     go_roundw
     case rel => exact ⟨k + 1, by omega, by go_num, by rw [E1.out], by rw [E2.out], HF.out⟩
     case measure => simp [intOf]; omega
    ·have d2 : (cv == 0) = false := beq_false_of_ne hz
     have e2 := HS2.out
     rw [if_neg (by rintro (h | h); exact hside h; exact hz h), Int.add_zero] at e2
     have E2 := Lib.hid e2
     clear e1 e2 HS1 HS2 hside hz
     go_wp2
     go_roundw
     case rel => exact ⟨k + 1, by omega, by go_num, by rw [E1.out], by rw [E2.out], HF.out⟩
     case measure => simp [intOf]; omega
  ·obtain rfl : k = n := by omega
   rw [List.take_of_length_le (by rw [HLN.out]; exact Nat.le_refl _)]
   have HF := Lib.hid hR.out.1
   clear hR
   go_wp2
   go_ret2
   exact ⟨rfl, HF.out⟩


set_option maxRecDepth 100000 in
set_option maxHeartbeats 4000000 in
theorem supplyAt_any (A : Option Addr) (n c : Nat) (l : List (Int × Int)) (an an' : Bool) (aA aA' : Option Addr) (ak ac ak' ac' : Nat) (q : Rat) (w : World) (h : StAt w A n l) (hq : QArg w an aA ak ac an' aA' ak' ac' q) (hk : chk true l = 0) :
  Calls Tryz.prog 150 #[.slice A n c, .agg #[.bool an, .slice aA ak ac, .bool an', .slice aA' ak' ac']] w fun e w' => e = .returned (.tuple #[.int .i64 (wlL (-1) q l), .int .i64 (wlM (-1) q l), .int .i64 0]) ∧ Below w.heap.size w w' := by
 have hok := chk_ok hk
 have hn : n ≤ 3 := by rw [← h.1]; exact hok.2.1
 have HX := Lib.hid h
 have HC := Lib.hid (fun W (hW : Below w.heap.size w W) => checkOffer_any A n c l W (h.below hW) (by omega))
 rw [hk] at HC
 have HW := Lib.hid (fun W (hW : Below w.heap.size w W) => willing_any (-1) A n c l an an' aA aA' ak ac ak' ac' q W (h.below hW) (hq.below hW) hn hok.2.2.2)
 clear h hq hk hok
 go_enter Tryz.func150, Tryz.ntmps150
 go_wp2_with fail
 have hbx := Blk.new w 42 #[.bool an, .slice aA ak ac, .bool an', .slice aA' ak' ac']
 have hb0 : Below w.heap.size w (w.alloc (.cells #[.bool an, .slice aA ak ac, .bool an', .slice aA' ak' ac'] 42)) := (Below.refl _ _).alloc (Nat.le_refl _) _
 generalize w.alloc (.cells #[.bool an, .slice aA ak ac, .bool an', .slice aA' ak' ac'] 42) = W0 at *
 refine (HC.out W0 hb0).mono ?_
 rintro e w1 ⟨rfl, hb1⟩
 have hbx1 := hbx.below hb1 hbx.lt
 obtain ⟨c0, c1, c2, c3, -, -, -, -⟩ := hbx1.four
 have HB1 := Lib.hid (hb0.trans (hb1.mono hb0.size))
 clear hbx hb0 hb1 HC hbx1
 go_wp2_with fail
 refine (HW.out w1 HB1.out).mono ?_
 rintro e w2 ⟨rfl, hb2⟩
 have HB2 := Lib.hid (HB1.out.trans (hb2.mono HB1.out.size))
 clear hb2 HW HB1
 go_wp2
 refine bodyPost_ret (v := .tuple #[.int .i64 (wlL (-1) q l), .int .i64 (wlM (-1) q l), .int .i64 0]) ?_ rfl ⟨rfl, HB2.out⟩
 simp [results, Tryz.results150, go_sem]

set_option maxRecDepth 100000 in
set_option maxHeartbeats 4000000 in
theorem demandAt_any (A : Option Addr) (n c : Nat) (l : List (Int × Int)) (an an' : Bool) (aA aA' : Option Addr) (ak ac ak' ac' : Nat) (q : Rat) (w : World) (h : StAt w A n l) (hq : QArg w an aA ak ac an' aA' ak' ac' q) (hk : chk false l = 0) :
  Calls Tryz.prog 151 #[.slice A n c, .agg #[.bool an, .slice aA ak ac, .bool an', .slice aA' ak' ac']] w fun e w' => e = .returned (.tuple #[.int .i64 (wlL (1) q l), .int .i64 (wlM (1) q l), .int .i64 0]) ∧ Below w.heap.size w w' := by
 have hok := chk_ok hk
 have hn : n ≤ 3 := by rw [← h.1]; exact hok.2.1
 have HX := Lib.hid h
 have HC := Lib.hid (fun W (hW : Below w.heap.size w W) => checkBid_any A n c l W (h.below hW) (by omega))
 rw [hk] at HC
 have HW := Lib.hid (fun W (hW : Below w.heap.size w W) => willing_any (1) A n c l an an' aA aA' ak ac ak' ac' q W (h.below hW) (hq.below hW) hn hok.2.2.2)
 clear h hq hk hok
 go_enter Tryz.func151, Tryz.ntmps151
 go_wp2_with fail
 have hbx := Blk.new w 42 #[.bool an, .slice aA ak ac, .bool an', .slice aA' ak' ac']
 have hb0 : Below w.heap.size w (w.alloc (.cells #[.bool an, .slice aA ak ac, .bool an', .slice aA' ak' ac'] 42)) := (Below.refl _ _).alloc (Nat.le_refl _) _
 generalize w.alloc (.cells #[.bool an, .slice aA ak ac, .bool an', .slice aA' ak' ac'] 42) = W0 at *
 refine (HC.out W0 hb0).mono ?_
 rintro e w1 ⟨rfl, hb1⟩
 have hbx1 := hbx.below hb1 hbx.lt
 obtain ⟨c0, c1, c2, c3, -, -, -, -⟩ := hbx1.four
 have HB1 := Lib.hid (hb0.trans (hb1.mono hb0.size))
 clear hbx hb0 hb1 HC hbx1
 go_wp2_with fail
 refine (HW.out w1 HB1.out).mono ?_
 rintro e w2 ⟨rfl, hb2⟩
 have HB2 := Lib.hid (HB1.out.trans (hb2.mono HB1.out.size))
 clear hb2 HW HB1
 go_wp2
 refine bodyPost_ret (v := .tuple #[.int .i64 (wlL (1) q l), .int .i64 (wlM (1) q l), .int .i64 0]) ?_ rfl ⟨rfl, HB2.out⟩
 simp [results, Tryz.results151, go_sem]

end Go.Proofs.YtjajigkacccdgaaGreat

namespace Go.Proofs.YtjajigkacccdgaaGreat
set_option linter.unusedVariables false
set_option linter.unusedSimpArgs false
open Go.RowKit
open Wd

/-- The cells of a rational. -/
abbrev QE := Bool × (Option Addr × Nat × Nat) × Bool × (Option Addr × Nat × Nat)
abbrev QE0 : QE := (false, (none, 0, 0), false, (none, 0, 0))
def QsAtR (w : World) (A : Option Addr) (m : Nat) (es : List QE) : Prop :=
 es.length = m ∧ (m ≠ 0 → ∃ b o, A = some ⟨b, o, none⟩ ∧ b < w.heap.size ∧ ∀ j, j < m → w.cell? ⟨b, o + j * 4, none⟩ = some (.bool (es[j]?.getD QE0).1) ∧ w.cell? ⟨b, o + j * 4 + 1, none⟩ = some (.slice (es[j]?.getD QE0).2.1.1 (es[j]?.getD QE0).2.1.2.1 (es[j]?.getD QE0).2.1.2.2) ∧
  w.cell? ⟨b, o + j * 4 + 2, none⟩ = some (.bool (es[j]?.getD QE0).2.2.1) ∧ w.cell? ⟨b, o + j * 4 + 3, none⟩ = some (.slice (es[j]?.getD QE0).2.2.2.1 (es[j]?.getD QE0).2.2.2.2.1 (es[j]?.getD QE0).2.2.2.2.2))
theorem QsAtR.below {w w' : World} {A : Option Addr} {m : Nat} {es : List QE} (h : QsAtR w A m es) (hb : Below w.heap.size w w') : QsAtR w' A m es := by
 refine ⟨h.1, fun hn => ?_⟩
 obtain ⟨b, o, rfl, hlt, hc⟩ := h.2 hn
 exact ⟨b, o, rfl, Nat.lt_of_lt_of_le hlt hb.size, fun j hj => ⟨(hb.cell hlt).trans (hc j hj).1, (hb.cell hlt).trans (hc j hj).2.1, (hb.cell hlt).trans (hc j hj).2.2.1, (hb.cell hlt).trans (hc j hj).2.2.2⟩⟩

def bigQ (e : QE) : Bool := decide (6 < e.2.1.2.1) || decide (6 < e.2.2.2.2.1)




end Go.Proofs.YtjajigkacccdgaaGreat
namespace Go.Proofs.YtjajigkacccdgaaGreat
set_option linter.unusedVariables false
set_option linter.unusedSimpArgs false
open Go.RowKit
open Wd
set_option maxRecDepth 100000 in
set_option maxHeartbeats 4000000 in
theorem long23_big (A : Option Addr) (m c : Nat) (es : List QE) (w : World) (h : QsAtR w A m es) (hm : m ≤ maxLen) :
  Calls Tryz.prog 23 #[.slice A m c] w fun e w' => e = .returned (.bool (es.any bigQ)) ∧ Below w.heap.size w w' := by
 have HX := Lib.hid h
 have HLN := Lib.hid h.1
 have HMX := Lib.hid hm
 clear h hm
 go_enter Tryz.func23, Tryz.ntmps23
 go_wp2_with fail
 go_loopw [3] (fun t wr => ∃ k : Nat, k ≤ m ∧ t = .int .i64 k ∧ Hid (Below w.heap.size w wr ∧ (es.take k).any bigQ = false)) (fun t _ => m - (intOf t).toNat)
 case atStart => exact ⟨0, Nat.zero_le _, rfl, Below.refl _ _, by simp⟩
 case round =>
  obtain ⟨k, hk, rfl, hR⟩ := hrel
  by_cases hlt : k < m
  ·obtain ⟨b, o, rfl, hb, hc⟩ := HX.out.2 (by omega)
   obtain ⟨-, y1, -, y3⟩ := hc k hlt
   have hkl : k < es.length := by rw [HLN.out]; exact hlt
   have htk : es.take (k + 1) = es.take k ++ [es[k]?.getD QE0] := by rw [List.take_add_one, List.getElem?_eq_getElem hkl]; rfl
   have hany : (es.take (k + 1)).any bigQ = bigQ (es[k]?.getD QE0) := by rw [htk, List.any_append, hR.out.2]; simp
   have hmm : bigQ (es[k]?.getD QE0) = true → es.any bigQ = true := fun hx => List.any_eq_true.2 ⟨_, getD_mem hkl, hx⟩
   unfold bigQ at hany hmm
   generalize (es[k]?.getD QE0).2.1.1 = a1 at *
   generalize (es[k]?.getD QE0).2.1.2.1 = n1 at *
   generalize (es[k]?.getD QE0).2.1.2.2 = c1 at *
   generalize (es[k]?.getD QE0).2.2.2.1 = a2 at *
   generalize (es[k]?.getD QE0).2.2.2.2.1 = n2 at *
   generalize (es[k]?.getD QE0).2.2.2.2.2 = c2 at *
   replace y1 := (hR.out.1.cell (p := ⟨b, o + k * 4 + 1, none⟩) hb).trans y1
   replace y3 := (hR.out.1.cell (p := ⟨b, o + k * 4 + 3, none⟩) hb).trans y3
   have k1 : (0 : Int) ≤ (k : Int) := by omega
   have k2 : (k : Int) < (m : Int) := by omega
   have i1 : IntKind.i64.wrap ((k : Int) + 1) = ((k + 1 : Nat) : Int) := by
    have := HMX.out
    unfold maxLen at this
    exact IntWalk.i64_in _ (by omega)
   have HB := Lib.hid hR.out.1
   have HA := Lib.hid hany
   have HM := Lib.hid hmm
   clear hR hc hkl htk hany hmm
   by_cases h1 : 6 < n1
   ·have d1 : decide ((6 : Int) < (n1 : Int)) = true := by simp; omega
    have HT := Lib.hid (HM.out (by simp [h1]))
    go_wp2
    go_ret
    exact ⟨by have := HT.out; unfold bigQ; rw [this]; rfl, HB.out⟩
   ·have d1 : decide ((6 : Int) < (n1 : Int)) = false := by simp; omega
    by_cases h2 : 6 < n2
    ·have d2 : decide ((6 : Int) < (n2 : Int)) = true := by simp; omega
     have HT := Lib.hid (HM.out (by simp [h2]))
     go_wp2
     go_ret
     exact ⟨by have := HT.out; unfold bigQ; rw [this]; rfl, HB.out⟩
    ·have d2 : decide ((6 : Int) < (n2 : Int)) = false := by simp; omega
     have HF : Hid ((es.take (k + 1)).any bigQ = false) := by
      show _ = _
      have := HA.out
      unfold bigQ
      rw [this]
      simp [h1, h2]
     go_wp2
     go_roundw
     case rel => exact ⟨k + 1, by omega, by first | rfl | go_num, HB.out, HF.out⟩
     case measure => simp [intOf]; omega
  ·obtain rfl : k = m := by omega
   have HT : Hid (es.any bigQ = false) := by
    show _ = _
    have := hR.out.2
    rwa [List.take_of_length_le (by rw [HLN.out]; omega)] at this
   have HB := Lib.hid hR.out.1
   clear hR
   go_wp2
   go_ret
   exact ⟨by rw [HT.out]; rfl, HB.out⟩


end Go.Proofs.YtjajigkacccdgaaGreat

namespace Go.Proofs.YtjajigkacccdgaaGreat
set_option linter.unusedVariables false
set_option linter.unusedSimpArgs false
open Go.RowKit
open Wd

/-- The bound of level k. -/
def PB (k : Nat) : Nat := 4294967296 ^ (7 * 3 ^ k)





/-- A rational of level k. -/
def Lv (k : Nat) (q : Rat) : Prop := q.num.natAbs < PB k ∧ q.den < PB k


theorem lv_mk {n : Int} {d N : Nat} (hd : d ≠ 0) (h1 : n.natAbs < N) (h2 : d < N) : (mkRat n d).num.natAbs < N ∧ (mkRat n d).den < N := by
 rw [mk_num _ _ hd, mk_den _ _ hd, Int.natAbs_tdiv, Int.natAbs_natCast]
 exact ⟨Nat.lt_of_le_of_lt (Nat.div_le_self _ _) h1, Nat.lt_of_le_of_lt (Nat.div_le_self _ _) h2⟩
theorem Lv.self (q : Rat) : q = mkRat q.num ((q.den : Nat) : Int).natAbs := by rw [Int.natAbs_natCast, Rat.mkRat_self]
section
variable {k : Nat} {a b : Rat}




end
/-- An operand of level k. -/
def QK (k : Nat) (w : World) (neg : Bool) (A : Option Addr) (n c : Nat) (neg' : Bool) (A' : Option Addr) (n' c' : Nat) (q : Rat) : Prop := QAt (PB k) (PB k) w neg A n c neg' A' n' c' q
section
variable {k j : Nat} {w w' : World} {an an' bn bn' : Bool} {aA aA' bA bA' : Option Addr} {ak ac ak' ac' bk bc bk' bc' : Nat} {q qa qb : Rat}











end
end Go.Proofs.YtjajigkacccdgaaGreat