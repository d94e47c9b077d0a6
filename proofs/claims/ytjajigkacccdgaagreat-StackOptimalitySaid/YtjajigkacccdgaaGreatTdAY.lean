/-
divWords of package whole, of magnitudes of any size; what package whole owes holds up to any bound. append onto rows of the call's own: the general part. Plain law of package stack: quantities and parts by price. No statement of the seat is proved here; no conditions beyond those of each theorem.
-/
import Derived.Test.YtjajigkacccdgaaGreatTdAS
import Derived.Test.YtjajigkacccdgaaGreatTdAX
import Derived.Test.YtjajigkacccdgaaGreatTdAH
import Derived.Test.YtjajigkacccdgaaGreatTdAC
import Derived.Deep.AppendLies
import Derived.Deep.RegionLaw
import Derived.Laws.OwnMore
namespace Go.Proofs.YtjajigkacccdgaaGreat
set_option linter.unusedVariables false
set_option linter.unusedSimpArgs false
open Go.RowKit
open Wd

set_option maxRecDepth 100000 in
set_option maxHeartbeats 4000000 in
theorem divWords_one (A A' : Option Addr) (n c c' x y : Nat) (w : World) (h : Wat w A n (digs x)) (h' : Wat w A' 1 (digs y)) (hxy : y ≤ x) (hn2 : ¬ n ≤ 2) (hy : y ≠ 0) (hn : n ≤ 10000000000) :
  Calls Tryz.prog 200 #[.slice A n c, .slice A' 1 c'] w (RetDiv w x y) := by
 have hc : ¬ cmpI x y < 0 := by
  rcases Nat.lt_or_ge y x with h1 | h1
  ·rw [cmpI_gt (by omega)]; decide
  ·rw [cmpI_eq (by omega)]; decide
 have T := compareWords_bel A A' n 1 c c' x y w h h' (by omega) (by omega)
 generalize cmpI x y = cc at *
 have T := Lib.hid T
 have hyB : y < 4294967296 := by
  have := digs_len_le.1 (show (digs y).length ≤ 1 by rw [h'.1]; exact Nat.le_refl _)
  simpa using this
 have hdy : (digs y)[0]?.getD 0 = y := by
  have h1 := val_digs y
  have h2 := h'.1
  match hd : digs y, h2 with
  | [d], _ =>
   rw [hd] at h1
   simp only [val_cons, val_nil] at h1
   simp
   omega
 obtain ⟨b', o', rfl, hb', hc'⟩ := h'.2.2 (by omega)
 have d0 := hc' 0 (by omega)
 rw [hdy, Nat.add_zero] at d0
 have HH := Lib.hid h
 have HY := Lib.hid (And.intro hyB (And.intro hb' d0))
 have wy : IntKind.u64.wrap (y : Int) = (y : Int) := by rw [IntKind.wrap_u64]; omega
 have i1 : ¬ (n : Int) ≤ 2 := by omega
 clear h h' hxy hyB hdy hc' hb' d0
 go_enter Tryz.func200, Tryz.ntmps200
 go_wp2_with fail
 refine T.out.mono ?_
 rintro e w1 ⟨rfl, hb1⟩
 have HB1 := Lib.hid hb1
 clear T hb1
 go_wp2_with fail
 refine (clone_any A n c (digs x) w1 (HH.out.below HB1.out) (by omega)).mono ?_
 rintro e w2 ⟨A2, c2, rfl, hk2, hcm2, hW2, hF2, hb2⟩
 obtain ⟨b, o, rfl, hbb, hR2⟩ := Rw.of hW2 hF2 (by omega)
 have HB2 := Lib.hid (HB1.out.trans (hb2.mono HB1.out.size))
 have d1 := (HB2.out.cell (p := ⟨b', o', none⟩) HY.out.2.1).trans HY.out.2.2
 have T2 := Lib.hid (shortDiv_any b o n c2 y (digs x) w2 hR2 hn (by omega) HY.out.1)
 have HK := Lib.hid (And.intro hk2 (show w.heap.size ≤ b from Nat.le_trans HB1.out.size hbb))
 clear hk2 hcm2 hW2 hF2 hb2 hbb hR2
 go_wp2_with fail
 refine T2.out.mono ?_
 rintro e w3 ⟨p, rfl, hR3, hv3, hx3⟩
 clear T2
 have hrl : val (digs x) % y < 4294967296 := Nat.lt_trans (Nat.mod_lt _ (by omega)) HY.out.1
 have hb3 := Bx.below HB2.out hx3 HK.out.2
 have hb4 : Below w.heap.size w (w3.alloc (.cells #[.int .u32 ((val (digs x) % y : Nat) : Int)] 59)) := Below.alloc hb3 hb3.size _
 have hwt := wat_one (w3.alloc (.cells #[.int .u32 ((val (digs x) % y : Nat) : Int)] 59)) (val (digs x) % y) hrl 59 w3.heap.size (Blk.new w3 _ _) w.heap.size hb3.size
 have hR4 := hR3.below ((Below.refl _ w3).alloc (Nat.le_refl _) (.cells #[.int .u32 ((val (digs x) % y : Nat) : Int)] 59)) hR3.2.2.1
 have hfin : RetDiv w x y (.returned (.tuple #[.slice (some ⟨b, o, none⟩) n c2, .slice (some ⟨w3.heap.size, 0, none⟩) 1 1])) (w3.alloc (.cells #[.int .u32 ((val (digs x) % y : Nat) : Int)] 59)) :=
  ⟨_, _, _, p, _, _, _, _, rfl, HK.out.1, Nat.le_refl _, by omega, by omega, hR4.wat, hwt.1, hR4.fresh HK.out.2, hwt.2, by rw [hv3, val_digs], by simp [val_cons, val_nil, val_digs], hb4⟩
 have HF := Lib.hid hfin
 have wr : ((val (digs x) % y : Nat) : Int) % 4294967296 = ((val (digs x) % y : Nat) : Int) := by omega
 generalize val (digs x) % y = r at *
 clear hfin hR4 hwt hb4 hb3 hrl hR3 hv3 hx3 d1
 go_wp2
 go_ret2
 exact HF.out

set_option maxRecDepth 100000 in
set_option maxHeartbeats 4000000 in
theorem divWords_long (A A' : Option Addr) (n m k c c' x y : Nat) (w : World) (h : Wat w A n (digs x)) (h' : Wat w A' (k + 2) (digs y)) (hxy : y ≤ x) (hn2 : ¬ n ≤ 2) (hle : n = m + (k + 2)) (hn : n ≤ 10000000000) :
  Calls Tryz.prog 200 #[.slice A n c, .slice A' (k + 2) c'] w (RetDiv w x y) := by
 have hc : ¬ cmpI x y < 0 := by
  rcases Nat.lt_or_ge y x with h1 | h1
  ·rw [cmpI_gt (by omega)]; decide
  ·rw [cmpI_eq (by omega)]; decide
 have T := compareWords_bel A A' n (k + 2) c c' x y w h h' (by omega) (by omega)
 generalize cmpI x y = cc at *
 have T := Lib.hid T
 have T2 := Lib.hid (fun W (hW : Below w.heap.size w W) => longDiv_any A A' n k m c c' x y W (h.below hW) (h'.below hW) hle hn)
 obtain ⟨kk, hkk⟩ : ∃ kk, kk = k + 2 := ⟨_, rfl⟩
 have i2 : ((kk : Int) == 1) = false := by simp; omega
 have i3 : ¬ kk = 1 := by omega
 rw [← hkk] at T T2 ⊢
 have i1 : ¬ (n : Int) ≤ 2 := by omega
 clear h h' hxy hle hkk
 go_enter Tryz.func200, Tryz.ntmps200
 go_wp2_with fail
 refine T.out.mono ?_
 rintro e w1 ⟨rfl, hb1⟩
 have HB1 := Lib.hid hb1
 clear T hb1
 go_wp2_with fail
 refine (T2.out w1 HB1.out).mono ?_
 rintro e w2 ⟨A1, n1, c1, q, A2, n2, c2, r, rfl, k1, k2, k3, k4, k5, k6, k7, k8, k9, k10, k11⟩
 have hfin : RetDiv w x y (.returned (.tuple #[.slice A1 n1 c1, .slice A2 n2 c2])) w2 :=
  ⟨_, _, _, q, _, _, _, r, rfl, k1, k2, k3, k4, k5, k6, k7.mono HB1.out.size, k8.mono HB1.out.size, k9, k10, HB1.out.trans (k11.mono HB1.out.size)⟩
 have HF := Lib.hid hfin
 clear hfin k1 k2 k3 k4 k5 k6 k7 k8 k9 k10 k11 T2
 go_wp2
 go_ret2
 exact HF.out

theorem divW_any (M : Nat) : DivW M := by
 intro A A' n n' c c' x y w h h' _ hy hn hn'
 rcases Nat.lt_or_ge x y with hlt | hge
 ·exact divWords_less A A' n n' c c' x y w h h' hlt hn hn'
 ·rcases Nat.lt_or_ge x 18446744073709551616 with h64 | h64
  ·exact divWords_two A A' n n' c c' x y w h h' hge h64 hy hn hn'
  ·have hn2 : ¬ n ≤ 2 := fun hh => by
    have := digs_len_le.1 (show (digs x).length ≤ 2 by rw [h.1]; exact hh)
    omega
   have hmono := digs_len_mono hge
   rw [h.1, h'.1] at hmono
   match n', h', hmono with
   | 0, h', _ =>
    have := List.eq_nil_of_length_eq_zero h'.1
    have h2 := val_digs y
    rw [this] at h2
    exact absurd h2.symm hy
   | 1, h', _ => exact divWords_one A A' n c c' x y w h h' hge hn2 hy hn
   | k + 2, h', hmono =>
    obtain ⟨m, hm⟩ : ∃ m, n = m + (k + 2) := ⟨n - (k + 2), by omega⟩
    exact divWords_long A A' n m k c c' x y w h h' hge hn2 hm hn

/-- What package whole owes, up to any bound whose integers fit a slice. -/
theorem wok_any (M : Nat) (hM : ∀ x, x < M → (digs x).length ≤ 10000000000) : WOK M := ⟨addOK_any M, subOK_any M, divW_any M, hM⟩
theorem wok_words (K : Nat) (hK : K ≤ 10000000000) : WOK (4294967296 ^ K) := wok_any _ fun x hx => Nat.le_trans (digs_len_le.2 hx) hK

end Go.Proofs.YtjajigkacccdgaaGreat

namespace Go.Proofs.YtjajigkacccdgaaGreat
set_option linter.unusedVariables false
set_option linter.unusedSimpArgs false
open Go.RowKit
open Wd

/-- What is appended: the cells news, from A on. -/
def SrcAt (w : World) (A : Option Addr) (m size : Nat) (news : List Value) : Prop :=
 news.length = m * size ∧ (∀ u ∈ news, u.oneCell' = true) ∧ ((A = none ∧ m = 0) ∨ ∃ ad, A = some ad ∧ ∀ j u, news[j]? = some u → w.cell? (ad.add j) = some u)

/-- A row of the call's own, its value written out. -/
def Own (base : Nat) (e : TypeId) (size : Nat) (w : World) (A : Option Addr) (n c : Nat) (xs : List Value) : Prop := w.ownsRow base e size (.slice A n c) n xs
/-- Another block is as it was. -/
def Kept (w w' : World) (A : Option Addr) : Prop := w.heap.size ≤ w'.heap.size ∧ ∀ k, k < w.heap.size → A.map (fun a => a.block) ≠ some k → w'.heap[k]? = w.heap[k]?

theorem run_append_my {P : Program} {w : World} {base : Nat} {t ty e : TypeId} {i : TypeInfo} {z : Value} {size bytes : Nat} (ht : P.underlying t = some (.slice e)) (hi : P.info? e = some i) (hz : i.zero = some z)
  (hsize : i.size = size) (hby : i.bytes = bytes) (hzs : z.cells.size = size) (hsz : 0 < size)
  {B : Option Addr} {n cb : Nat} {xs : List Value} (hown : Own base e size w B n cb xs) {A : Option Addr} {m c : Nat} {news : List Value} (hs : SrcAt w A m size news)
  (h63 : n + m ≤ maxLen) (hbytes : (n + m) * bytes ≤ 140737488355328) (hbase : base ≤ w.heap.size) :
  ∃ B' cb' w', (Builtin.append_ #[t, t] ty #[.slice B n cb, .slice A m c]).run P w = .ok (.slice B' (n + m) cb') w' ∧ Own base e size w' B' (n + m) cb' (xs ++ news) ∧ Below base w w' ∧ Kept w w' B := by
 obtain ⟨h1, h2, h3⟩ := hs
 rcases h3 with ⟨rfl, rfl⟩ | ⟨ad, rfl, h3⟩
 ·have e1 : news = [] := List.eq_nil_of_length_eq_zero (by simpa using h1)
  subst e1
  refine ⟨B, cb, w, ?_, by simpa using hown, Below.refl _ _, Nat.le_refl _, fun _ _ _ => rfl⟩
  have hle : n ≤ cb := by
   rcases hown.2 with ⟨h4, _⟩ | ⟨g, cap, cur, h4, _, _, hnc, _⟩
   ·simp at h4; omega
   ·simp at h4; omega
  rcases hown.2 with ⟨h4, h5⟩ | ⟨g, cap, cur, h4, _, _, hnc, _⟩
  ·simp at h4
   obtain ⟨rfl, rfl, rfl⟩ := h4
   simp [Builtin.append_, run_underlying ht, sizeOf, typeInfo, hi, Builtin.lenOf, Builtin.firstCells]
  ·simp at h4
   obtain ⟨rfl, rfl⟩ := h4
   simp [Builtin.append_, run_underlying ht, sizeOf, typeInfo, hi, Builtin.lenOf, Builtin.firstCells, hnc, storeCells]
 ·obtain ⟨v', w', hr, ho, hg, _⟩ := run_append_own (P := P) w base t ty e i z size bytes ht hi hz hsize hby hzs hsz _ n xs hown ad m c news h1 h3 h2 h63 hbytes hbase
  have hB : Below base w w' := ⟨hg.os, hg.tape, hg.output, hg.size, fun k hk => hg.block k (by omega) fun he => by have := (hown.lt k he.symm).1; omega⟩
  have hK : Kept w w' B := ⟨hg.size, fun k hk hne => hg.block k hk fun he => hne (by
   cases B with
   | none => simp [Value.ownBlock] at he
   | some b => simpa [Value.ownBlock] using he.symm)⟩
  rcases ho.2 with ⟨rfl, h5⟩ | ⟨g, cap, cur, rfl, _⟩
  ·exact ⟨none, 0, w', by rw [hr, h5], by rw [h5] at ho ⊢; exact ho, hB, hK⟩
  ·exact ⟨some ⟨g, 0, none⟩, cap, w', hr, ho, hB, hK⟩

theorem wp_append_my {P : Program} {w : World} {o : Oper} {a : Act} {K : Act → World → Prop} {Q : Exit → Act → World → Prop} (s x : Operand) (t : TypeId)
  (ho : o.op = .call { callee := .builtin .append, args := #[s, x], argTypes := #[t, t] })
  {base : Nat} {e : TypeId} {i : TypeInfo} {z : Value} {size bytes : Nat} (ht : P.underlying t = some (.slice e)) (hi : P.info? e = some i) (hz : i.zero = some z)
  (hsize : i.size = size) (hby : i.bytes = bytes) (hzs : z.cells.size = size) (hsz : 0 < size)
  {B : Option Addr} {n cb : Nat} {xs : List Value} (hss : a.eval s = .slice B n cb) (hown : Own base e size w B n cb xs) {A : Option Addr} {m c : Nat} {news : List Value} (hx : a.eval x = .slice A m c) (hs : SrcAt w A m size news)
  (h63 : n + m ≤ maxLen) (hbytes : (n + m) * bytes ≤ 140737488355328) (hbase : base ≤ w.heap.size)
  (h : ∀ B' cb' w', Own base e size w' B' (n + m) cb' (xs ++ news) → Below base w w' → Kept w w' B → K (a.put o.dst (.slice B' (n + m) cb')) w') : o.wp P a w K Q := by
 obtain ⟨B', cb', w', hr, h2, h3, h4⟩ := run_append_my (P := P) (ty := o.type) (c := c) ht hi hz hsize hby hzs hsz hown hs h63 hbytes hbase
 unfold Oper.wp execOp
 simp only [ho, resolve, invoke, builtin, Sem.run_bind, Sem.run_pure, Result.andThen_ok, List.map_toArray, List.map_cons, List.map_nil, hss, hx, hr]
 exact h B' cb' w' h2 h3 h4

/-- At a step of a region that draws. -/
theorem step_append_my {P : Program} {w : World} {ops : Array Oper} {o : Oper} {a : Act} {K : Act → World → Prop} {Q : Exit → Act → World → Prop} {E : Prop} (hw : Region.wanted o (yielded ops a.tmps) = true) (s x : Operand) (t : TypeId)
  (ho : o.op = .call { callee := .builtin .append, args := #[s, x], argTypes := #[t, t] })
  {base : Nat} {e : TypeId} {i : TypeInfo} {z : Value} {size bytes : Nat} (ht : P.underlying t = some (.slice e)) (hi : P.info? e = some i) (hz : i.zero = some z)
  (hsize : i.size = size) (hby : i.bytes = bytes) (hzs : z.cells.size = size) (hsz : 0 < size)
  {B : Option Addr} {n cb : Nat} {xs : List Value} (hss : a.eval s = .slice B n cb) (hown : Own base e size w B n cb xs) {A : Option Addr} {m c : Nat} {news : List Value} (hx : a.eval x = .slice A m c) (hs : SrcAt w A m size news)
  (h63 : n + m ≤ maxLen) (hbytes : (n + m) * bytes ≤ 140737488355328) (hbase : base ≤ w.heap.size)
  (h : ∀ B' cb' w', Own base e size w' B' (n + m) cb' (xs ++ news) → Below base w w' → Kept w w' B → K (a.put o.dst (.slice B' (n + m) cb')) w') :
  if Region.wanted o (yielded ops a.tmps) = true then Oper.wp P o a w K Q else E := by
 rw [if_pos hw]
 exact wp_append_my s x t ho ht hi hz hsize hby hzs hsz hss hown hx hs h63 hbytes hbase h

theorem Own.keep {base : Nat} {e : TypeId} {size : Nat} {w w' : World} {A : Option Addr} {n c : Nat} {xs : List Value} (h : Own base e size w A n c xs) (hb : Below w.heap.size w w') : Own base e size w' A n c xs := by
 refine ⟨h.1, ?_⟩
 rcases h.2 with h2 | ⟨g, cap, cur, h2, h3, h4, h5⟩
 ·exact Or.inl h2
 ·exact Or.inr ⟨g, cap, cur, h2, h3, (hb.block g (Array.getElem?_eq_some_iff.1 h4).1).trans h4, h5⟩

theorem SrcAt.below {w w' : World} {A : Option Addr} {m size : Nat} {news : List Value} (h : SrcAt w A m size news) (hb : Below w.heap.size w w') : SrcAt w' A m size news := by
 refine ⟨h.1, h.2.1, ?_⟩
 rcases h.2.2 with h3 | ⟨ad, h3, h4⟩
 ·exact Or.inl h3
 ·exact Or.inr ⟨ad, h3, fun j u hu => (hb.cell (World.block_lt_of_cell? w _ (h4 j u hu))).trans (h4 j u hu)⟩
theorem slice_lo {P : Program} {t e : TypeId} (ht : P.underlying t = some (.slice e)) {i : TypeInfo} (hi : P.info? e = some i) (A : Option Addr) (n c j : Nat) (hj : j ≤ c) :
  ∃ A1, (∀ W, (Instr.sliceAt t (.slice A n c) none (some (.int .i64 (j : Int))) none).run P W = .ok (.slice A1 j c) W) ∧ ∀ b o, A = some ⟨b, o, none⟩ → A1 = some ⟨b, o, none⟩ := by
 refine ⟨if c = 0 then A else A.map (·.add 0), fun W => ?_, ?_⟩
 ·simp [Instr.sliceAt, Instr.slice, run_underlying ht, go_sem, hj, sizeOf, typeInfo, hi]
 ·rintro b o rfl
  simp [addr_add]

theorem Own.made {base : Nat} {e : TypeId} {size : Nat} (w : World) (hb : base ≤ w.heap.size) : Own base e size (w.alloc (.cells #[] e)) (some ⟨w.heap.size, 0, none⟩) 0 0 [] :=
 World.ownsRow_made w #[] 0 hb (Nat.zero_le _) (by simp)
theorem Kept.blk {w w' : World} {A : Option Addr} {g : Nat} {t : TypeId} {cs : Array Value} (h : Kept w w' A) (hb : Blk w g t cs) (hne : A.map (fun a => a.block) ≠ some g) : Blk w' g t cs := (h.2 g hb.lt hne).trans hb
theorem Blk.src {w : World} {g : Nat} {t : TypeId} {cs : Array Value} {m size : Nat} (h : Blk w g t cs) (hs : cs.size = m * size) (h1 : ∀ u ∈ cs.toList, u.oneCell' = true) : SrcAt w (some ⟨g, 0, none⟩) m size cs.toList :=
 ⟨by simpa using hs, h1, Or.inr ⟨_, rfl, World.news_of_block h⟩⟩

theorem Own.nil (base : Nat) (e : TypeId) (size : Nat) (w : World) : Own base e size w none 0 0 [] := ⟨by simp, Or.inl ⟨rfl, rfl⟩⟩
theorem Own.far {base base' : Nat} {e e' : TypeId} {size size' : Nat} {w w' : World} {A B : Option Addr} {n c m d : Nat} {xs ys : List Value} (h : Own base e size w A n c xs) (h' : Own base' e' size' w B m d ys) (hne : e ≠ e') (hk : Kept w w' B) : Own base e size w' A n c xs := by
 refine ⟨h.1, ?_⟩
 rcases h.2 with h2 | ⟨g, cap, cur, h2, h3, h4, h5⟩
 ·exact Or.inl h2
 ·refine Or.inr ⟨g, cap, cur, h2, h3, (hk.2 g (Array.getElem?_eq_some_iff.1 h4).1 fun hB => ?_).trans h4, h5⟩
  rcases h'.2 with ⟨h6, _⟩ | ⟨g', cap', cur', h6, _, h7, _⟩
  ·simp at h6
   rw [h6.1] at hB
   simp at hB
  ·simp at h6
   rw [h6.1] at hB
   simp at hB
   rw [hB, h4] at h7
   simp at h7
   exact hne h7.2

theorem Own.aside {base : Nat} {e : TypeId} {size : Nat} {w : World} {A : Option Addr} {n c : Nat} {xs : List Value} (h : Own base e size w A n c xs) {p : Addr} (hp : p.block < base) (v : Value) : Own base e size (w.setCell p v) A n c xs := by
 refine ⟨h.1, ?_⟩
 rcases h.2 with h2 | ⟨g, cap, cur, h2, h3, h4, h5⟩
 ·exact Or.inl h2
 ·exact Or.inr ⟨g, cap, cur, h2, h3, Blk.far (t := e) (cs := cur) h4 (by omega) v, h5⟩

/-- At a step of a list of operations. -/
theorem wpList_append_my {P : Program} {w : World} {ops : Array Oper} {rest : List Oper} {o : Oper} {a : Act} {Q : Exit → Act → World → Prop} (hg : o.guard = none) (s x : Operand) (t : TypeId)
  (ho : o.op = .call { callee := .builtin .append, args := #[s, x], argTypes := #[t, t] })
  {base : Nat} {e : TypeId} {i : TypeInfo} {z : Value} {size bytes : Nat} (ht : P.underlying t = some (.slice e)) (hi : P.info? e = some i) (hz : i.zero = some z)
  (hsize : i.size = size) (hby : i.bytes = bytes) (hzs : z.cells.size = size) (hsz : 0 < size)
  {B : Option Addr} {n cb : Nat} {xs : List Value} (hss : a.eval s = .slice B n cb) (hown : Own base e size w B n cb xs) {A : Option Addr} {m c : Nat} {news : List Value} (hx : a.eval x = .slice A m c) (hs : SrcAt w A m size news)
  (h63 : n + m ≤ maxLen) (hbytes : (n + m) * bytes ≤ 140737488355328) (hbase : base ≤ w.heap.size)
  (h : ∀ B' cb' w', Own base e size w' B' (n + m) cb' (xs ++ news) → Below base w w' → Kept w w' B → wpList P ops Q rest (a.put o.dst (.slice B' (n + m) cb')) w') :
  wpList P ops Q (o :: rest) a w :=
 wpList_plain hg fun K hK => wp_append_my s x t ho ht hi hz hsize hby hzs hsz hss hown hx hs h63 hbytes hbase fun B' cb' w' h1 h2 h3 => hK _ _ (h B' cb' w' h1 h2 h3)

theorem Kp.alloc {W w' : World} (h : Kp W w') (o : Obj) : Kp W (w'.alloc o) := Below.alloc h (Below.size h) o
theorem Kp.set {W w' : World} (h : Kp W w') {p : Addr} (hp : W.heap.size ≤ p.block) (v : Value) : Kp W (w'.setCell p v) := Below.setCell h hp v
theorem Blk.three {w : World} {g : Nat} {t : TypeId} {a b c : Value} (h : Blk w g t #[a, b, c]) : w.cell? ⟨g, 0, none⟩ = some a ∧ w.cell? ⟨g, 1, none⟩ = some b ∧ w.cell? ⟨g, 2, none⟩ = some c := ⟨h.cell 0, h.cell 1, h.cell 2⟩
theorem getD_mem {α : Type} {l : List α} {k : Nat} {d : α} (h : k < l.length) : l[k]?.getD d ∈ l := by
 rw [List.getElem?_eq_getElem h]
 exact List.getElem_mem h
/-- A row of integers in a slice. -/
def IsAt (w : World) (A : Option Addr) (n : Nat) (xs : List Int) : Prop :=
 xs.length = n ∧ (n ≠ 0 → ∃ b o, A = some ⟨b, o, none⟩ ∧ b < w.heap.size ∧ ∀ j, j < n → w.cell? ⟨b, o + j, none⟩ = some (.int .i64 (xs[j]?.getD 0)))
theorem IsAt.below {w w' : World} {A : Option Addr} {n : Nat} {xs : List Int} (h : IsAt w A n xs) (hb : Below w.heap.size w w') : IsAt w' A n xs := by
 refine ⟨h.1, fun hn => ?_⟩
 obtain ⟨b, o, rfl, hlt, hc⟩ := h.2 hn
 exact ⟨b, o, rfl, Nat.lt_of_lt_of_le hlt hb.size, fun j hj => (hb.cell hlt).trans (hc j hj)⟩
theorem IsAt.src {w : World} {A : Option Addr} {n : Nat} {xs : List Int} (h : IsAt w A n xs) : SrcAt w A n 1 (xs.map (Value.int .i64)) := by
 refine ⟨by simp [h.1], fun u hu => by obtain ⟨x, _, rfl⟩ := List.mem_map.1 hu; rfl, ?_⟩
 by_cases hn : n = 0
 ·subst hn
  have e : xs = [] := List.eq_nil_of_length_eq_zero h.1
  subst e
  cases A with
  | none => exact Or.inl ⟨rfl, rfl⟩
  | some ad => exact Or.inr ⟨ad, rfl, by simp⟩
 ·obtain ⟨b, o, rfl, hlt, hc⟩ := h.2 hn
  refine Or.inr ⟨_, rfl, fun j u hu => ?_⟩
  have hj : j < xs.length := by
   have := (List.getElem?_eq_some_iff.1 hu).1
   simpa using this
  rw [addr_add, hc j (by have := h.1; omega), ← hu]
  simp [hj]
theorem Own.ints {base : Nat} {e : TypeId} {w : World} {A : Option Addr} {n c : Nat} {xs : List Int} (h : Own base e 1 w A n c (xs.map (Value.int .i64))) : IsAt w A n xs := by
 have hl : xs.length = n := by have := h.1; simpa using this
 refine ⟨hl, fun hn => ?_⟩
 obtain ⟨g, cap, hv, hb, hlt⟩ := World.ownsRow.form h (by omega)
 simp at hv
 obtain ⟨rfl, rfl⟩ := hv
 refine ⟨g, 0, rfl, hlt, fun j hj => ?_⟩
 rw [Nat.zero_add, World.ownsRow.cellAt h j (by omega)]
 simp [show j < xs.length by omega]
/-- A block of integers. -/
def IRow (w : World) (g : Nat) (xs : List Int) : Prop := Blk w g 2 (xs.map (Value.int .i64)).toArray
theorem IRow.cell {w : World} {g : Nat} {xs : List Int} (h : IRow w g xs) {i : Nat} (hi : i < xs.length) : w.cell? ⟨g, i, none⟩ = some (.int .i64 (xs[i]?.getD 0)) := by
 rw [Blk.cell h i]
 simp [hi]
theorem IRow.frozen {w : World} {g : Nat} {xs : List Int} (h : IRow w g xs) (i : Nat) : w.frozen? ⟨g, i, none⟩ = false := Blk.frozen h i
theorem IRow.set {w : World} {g : Nat} {xs : List Int} (h : IRow w g xs) (i : Nat) (v : Int) : IRow (w.setCell ⟨g, i, none⟩ (.int .i64 v)) g (xs.set i v) := by
 have := Blk.set h i (.int .i64 v)
 unfold IRow
 simpa [List.map_set] using this
theorem IRow.below {w w' : World} {g : Nat} {xs : List Int} (h : IRow w g xs) (hb : Below w.heap.size w w') : IRow w' g xs := Blk.below h hb (Blk.lt h)
theorem IRow.alloc {w : World} {g : Nat} {xs : List Int} (h : IRow w g xs) (o : Obj) : IRow (w.alloc o) g xs := Blk.alloc h o
theorem IRow.start (w : World) (n : Nat) : IRow (w.alloc (.cells (Array.replicate n (.int .i64 0)) 2)) w.heap.size (List.replicate n 0) := by
 unfold IRow
 have := Blk.new w 2 (Array.replicate n (.int .i64 0))
 simpa using this
theorem IRow.at {w : World} {g : Nat} {xs : List Int} {n : Nat} (h : IRow w g xs) (hl : xs.length = n) : IsAt w (some ⟨g, 0, none⟩) n xs :=
 ⟨hl, fun _ => ⟨g, 0, rfl, Blk.lt h, fun j hj => by rw [Nat.zero_add]; exact h.cell (by omega)⟩⟩

theorem made_ints (n : Nat) : madeCells #[.int .i64 0] n = ((List.replicate n (0 : Int)).map (Value.int .i64)).toArray := by
 apply Array.ext
 ·simp [size_madeCells]
 ·intro i h1 h2
  simp [madeCells, Nat.mod_one]
theorem info_int64 : (Tryz.prog.info? 2).map (fun i => (i.zero, i.size, i.bytes)) = some (some (.int .i64 0), 1, 8) := by kernel_rfl
theorem run_make_ints (k : Nat) (hk : k ≤ 1000000000) (w : World) :
  (Instr.makeSlice 62 (.int .i64 (k : Int)) (.int .i64 (k : Int))).run Tryz.prog w = .ok (.slice (some ⟨w.heap.size, 0, none⟩) k k) (w.alloc (.cells ((List.replicate k (0 : Int)).map (Value.int .i64)).toArray 2)) := by
 obtain ⟨i0, hi, hz0, hz1, hz2⟩ := info_parts info_int64
 have h := run_make (P := Tryz.prog) w 62 2 i0 _ Tryz.underlying62 hi hz0 .i64 .i64 k k (by omega) (Int.le_refl _) (by rw [hz2]; omega) (by omega)
 rw [h, hz1]
 simp only [Int.toNat_natCast, Value.cells, Nat.mul_one]
 rw [made_ints]

end Go.Proofs.YtjajigkacccdgaaGreat

namespace Go.Proofs.YtjajigkacccdgaaGreat
set_option linter.unusedVariables false
set_option linter.unusedSimpArgs false
namespace St

/-- A step of curve t.1: quantity t.2.1 at price t.2.2. -/
abbrev Tr := Nat × Int × Int
def tri : Nat → List (List (Int × Int)) → List Tr
 | _, [] => []
 | k, l :: ls => l.map (fun s => (k, s.1, s.2)) ++ tri (k + 1) ls
def qty : List Tr → Int → Int
 | [], _ => 0
 | t :: T, p => (if t.2.2 = p then t.2.1 else 0) + qty T p
def part : List Tr → Int → Nat → Int
 | [], _, _ => 0
 | t :: T, p, i => (if t.2.2 = p ∧ t.1 = i then t.2.1 else 0) + part T p i
def parts (n : Nat) (T : List Tr) (p : Int) : List Int := (List.range n).map (part T p)
def addP (ps : List Int) (p : Int) : List Int := if p ∈ ps then ps else ps ++ [p]
def pr (T : List Tr) : List Int := T.foldl (fun a t => addP a t.2.2) []

theorem qty_app : ∀ (T S : List Tr) (p : Int), qty (T ++ S) p = qty T p + qty S p
 | [], S, p => by simp [qty]
 | t :: T, S, p => by rw [List.cons_append, qty, qty, qty_app T S p]; omega
theorem part_app : ∀ (T S : List Tr) (p : Int) (i : Nat), part (T ++ S) p i = part T p i + part S p i
 | [], S, p, i => by simp [part]
 | t :: T, S, p, i => by rw [List.cons_append, part, part, part_app T S p i]; omega
theorem parts_len (n : Nat) (T : List Tr) (p : Int) : (parts n T p).length = n := by simp [parts]
theorem parts_get {n : Nat} {T : List Tr} {p : Int} {i : Nat} (hi : i < n) : (parts n T p)[i]?.getD 0 = part T p i := by simp [parts, hi]
theorem ext_getD {xs ys : List Int} (hl : xs.length = ys.length) (h : ∀ i, i < xs.length → xs[i]?.getD 0 = ys[i]?.getD 0) : xs = ys := by
 apply List.ext_getElem hl
 intro i hi hj
 have := h i hi
 rw [List.getElem?_eq_getElem hi, List.getElem?_eq_getElem hj] at this
 exact this
theorem parts_snoc {n : Nat} {T : List Tr} {i : Nat} {q p : Int} (hi : i < n) (p' : Int) : parts n (T ++ [(i, q, p)]) p' = if p' = p then (parts n T p).set i ((parts n T p)[i]?.getD 0 + q) else parts n T p' := by
 by_cases h : p' = p
 ·subst h
  rw [if_pos rfl]
  refine ext_getD (by simp [parts]) fun j hj => ?_
  have hj' : j < n := by simpa [parts] using hj
  rw [parts_get hj', part_app, parts_get hi, List.getElem?_set]
  by_cases hij : i = j
  ·subst hij
   simp [part, parts_len, hi]
  ·rw [if_neg hij, parts_get hj']
   simp [part, hij]
 ·rw [if_neg h]
  refine ext_getD (by simp [parts]) fun j hj => ?_
  have hj' : j < n := by simpa [parts] using hj
  rw [parts_get hj', parts_get hj', part_app]
  have : ¬ p = p' := fun e => h e.symm
  simp [part, this]
theorem qty_snoc {T : List Tr} {i : Nat} {q p : Int} (p' : Int) : qty (T ++ [(i, q, p)]) p' = if p' = p then qty T p + q else qty T p' := by
 rw [qty_app]
 by_cases h : p' = p
 ·subst h
  simp [qty]
 ·have : ¬ p = p' := fun e => h e.symm
  simp [qty, h, this]
theorem pr_snoc (T : List Tr) (t : Tr) : pr (T ++ [t]) = addP (pr T) t.2.2 := by simp [pr, List.foldl_append]
theorem mem_addP {ps : List Int} {p x : Int} : x ∈ addP ps p ↔ x ∈ ps ∨ x = p := by
 unfold addP
 split
 ·constructor
  ·exact Or.inl
  ·rintro (h | rfl)
   ·exact h
   ·assumption
 ·simp
theorem mem_fold : ∀ (T : List Tr) (a : List Int) (x : Int), x ∈ T.foldl (fun a t => addP a t.2.2) a ↔ x ∈ a ∨ ∃ t ∈ T, t.2.2 = x
 | [], a, x => by simp
 | t :: T, a, x => by
  rw [List.foldl_cons, mem_fold T, mem_addP]
  constructor
  ·rintro ((h | h) | ⟨s, h1, h2⟩)
   ·exact Or.inl h
   ·exact Or.inr ⟨t, List.mem_cons_self .., h.symm⟩
   ·exact Or.inr ⟨s, List.mem_cons_of_mem _ h1, h2⟩
  ·rintro (h | ⟨s, h1, h2⟩)
   ·exact Or.inl (Or.inl h)
   ·rcases List.mem_cons.1 h1 with rfl | h1
    ·exact Or.inl (Or.inr h2.symm)
    ·exact Or.inr ⟨s, h1, h2⟩
theorem mem_pr {T : List Tr} {x : Int} : x ∈ pr T ↔ ∃ t ∈ T, t.2.2 = x := by
 unfold pr
 rw [mem_fold]
 simp
theorem addP_nodup {ps : List Int} {p : Int} (h : ps.Nodup) : (addP ps p).Nodup := by
 unfold addP
 split
 ·exact h
 ·rename_i hp
  rw [List.nodup_append]
  exact ⟨h, by simp, fun a ha b hb => by simp at hb; subst hb; rintro rfl; exact hp ha⟩
theorem fold_nodup : ∀ (T : List Tr) (a : List Int), a.Nodup → (T.foldl (fun a t => addP a t.2.2) a).Nodup
 | [], a, h => h
 | t :: T, a, h => fold_nodup T _ (addP_nodup h)
theorem pr_nodup (T : List Tr) : (pr T).Nodup := fold_nodup T [] (by simp)
theorem qty_none {T : List Tr} {p : Int} (h : p ∉ pr T) : qty T p = 0 := by
 have : ∀ (S : List Tr), (∀ t ∈ S, t.2.2 ≠ p) → qty S p = 0 := by
  intro S
  induction S with
  | nil => intro _; rfl
  | cons t S ih =>
   intro hS
   rw [qty, if_neg (hS t (List.mem_cons_self ..)), ih fun s hs => hS s (List.mem_cons_of_mem _ hs)]
   rfl
 exact this T fun t ht e => h (mem_pr.2 ⟨t, ht, e⟩)
theorem part_none {T : List Tr} {p : Int} {i : Nat} (h : p ∉ pr T) : part T p i = 0 := by
 have : ∀ (S : List Tr), (∀ t ∈ S, t.2.2 ≠ p) → part S p i = 0 := by
  intro S
  induction S with
  | nil => intro _; rfl
  | cons t S ih =>
   intro hS
   rw [part, if_neg (fun e => hS t (List.mem_cons_self ..) e.1), ih fun s hs => hS s (List.mem_cons_of_mem _ hs)]
   rfl
 exact this T fun t ht e => h (mem_pr.2 ⟨t, ht, e⟩)
theorem parts_none {n : Nat} {T : List Tr} {p : Int} (h : p ∉ pr T) : parts n T p = List.replicate n 0 := by
 refine ext_getD (by simp [parts]) fun j hj => ?_
 have hj' : j < n := by simpa [parts] using hj
 rw [parts_get hj', part_none h]
 simp [hj']

/-- A level: price, quantity, parts. -/
abbrev Lv := Int × Int × List Int
def ltU (up : Bool) (a b : Int) : Prop := if up then a < b else b < a
/-- The stack of the steps T of n curves. -/
def IsLv (up : Bool) (n : Nat) (T : List Tr) (lv : List Lv) : Prop :=
 (lv.map (·.1)).Pairwise (ltU up) ∧ (∀ p, p ∈ lv.map (·.1) ↔ ∃ t ∈ T, t.2.2 = p) ∧ ∀ x ∈ lv, x.2.1 = qty T x.1 ∧ x.2.2 = parts n T x.1

theorem ltU_irr {up : Bool} {a : Int} : ¬ ltU up a a := by unfold ltU; split <;> omega
theorem ltU_asym {up : Bool} {a b : Int} (h : ltU up a b) : ¬ ltU up b a := by unfold ltU at *; split at h <;> rename_i hu <;> simp [hu] <;> omega
/-- Two lists that rise alike and hold the same are one. -/
theorem sorted_only {up : Bool} : ∀ {xs ys : List Int}, xs.Pairwise (ltU up) → ys.Pairwise (ltU up) → (∀ p, p ∈ xs ↔ p ∈ ys) → xs = ys
 | [], [], _, _, _ => rfl
 | [], y :: ys, _, _, h => absurd ((h y).2 (List.mem_cons_self ..)) (by simp)
 | x :: xs, [], _, _, h => absurd ((h x).1 (List.mem_cons_self ..)) (by simp)
 | x :: xs, y :: ys, hx, hy, h => by
  obtain ⟨a1, a2⟩ := List.pairwise_cons.1 hx
  obtain ⟨b1, b2⟩ := List.pairwise_cons.1 hy
  have e : x = y := by
   rcases List.mem_cons.1 ((h x).1 (List.mem_cons_self ..)) with e | hm
   ·exact e
   ·rcases List.mem_cons.1 ((h y).2 (List.mem_cons_self ..)) with e | hm'
    ·exact e.symm
    ·exact absurd (b1 x hm) (ltU_asym (a1 y hm'))
  subst e
  congr 1
  refine sorted_only a2 b2 fun p => ⟨fun hp => ?_, fun hp => ?_⟩
  ·rcases List.mem_cons.1 ((h p).1 (List.mem_cons_of_mem _ hp)) with e | hm
   ·subst e; exact absurd (a1 p hp) ltU_irr
   ·exact hm
  ·rcases List.mem_cons.1 ((h p).2 (List.mem_cons_of_mem _ hp)) with e | hm
   ·subst e; exact absurd (b1 p hp) ltU_irr
   ·exact hm
theorem IsLv.eq {up : Bool} {n : Nat} {T : List Tr} {lv : List Lv} (h : IsLv up n T lv) : lv = (lv.map (·.1)).map fun p => (p, qty T p, parts n T p) := by
 rw [List.map_map]
 have : ∀ x ∈ lv, ((fun p => (p, qty T p, parts n T p)) ∘ fun x : Lv => x.1) x = id x := fun x hx => by
  obtain ⟨h1, h2⟩ := h.2.2 x hx
  simp only [Function.comp, id]
  rw [← h1, ← h2]
 rw [List.map_congr_left this, List.map_id]
theorem IsLv.only {up : Bool} {n : Nat} {T : List Tr} {lv lv' : List Lv} (h : IsLv up n T lv) (h' : IsLv up n T lv') : lv = lv' := by
 have e := sorted_only h.1 h'.1 fun p => (h.2.1 p).trans (h'.2.1 p).symm
 have e1 := h.eq
 rw [e] at e1
 rw [e1]
 exact h'.eq.symm

end St
end Go.Proofs.YtjajigkacccdgaaGreat
