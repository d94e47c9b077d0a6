/-
append onto rows of the call's own: units, booleans, integers. append onto rows of the call's own: at a list of operations; rows aside. No statement of the seat is proved here; no conditions beyond those of each theorem.
-/
import Derived.Test.YtdoeejcmaeefcaaGreatHN
import Derived.Deep.AppendLies
import Derived.Deep.RegionLaw
import Derived.Laws.OwnMore
namespace Go.Proofs.YtdoeejcmaeefcaaGreat
set_option linter.unusedVariables false
set_option linter.unusedSimpArgs false
open Go.RowKit
open Wd

/-- What is appended: the cells news, from A on. -/
def SrcAt (w : World) (A : Option Addr) (m size : Nat) (news : List Value) : Prop :=
  news.length = m * size ∧ (∀ u ∈ news, u.oneCell' = true) ∧ ((A = none ∧ m = 0) ∨ ∃ ad, A = some ad ∧ ∀ j u, news[j]? = some u → w.cell? (ad.add j) = some u)

/-- A row of the call's own, its value written out. -/
def Own (base : Nat) (e : TypeId) (size : Nat) (w : World) (A : Option Addr) (n c : Nat) (xs : List Value) : Prop := w.ownsRow base e size (.slice A n c) n xs
/-- Another block is as it was. -/
def Kept (w w' : World) (A : Option Addr) : Prop := w.heap.size ≤ w'.heap.size ∧ ∀ k, k < w.heap.size → A.map (fun a => a.block) ≠ some k → w'.heap[k]? = w.heap[k]?

theorem run_append_my {P : Program} {w : World} {base : Nat} {t ty e : TypeId} {i : TypeInfo} {z : Value} {size bytes : Nat} (ht : P.underlying t = some (.slice e)) (hi : P.info? e = some i) (hz : i.zero = some z)
    (hsize : i.size = size) (hby : i.bytes = bytes) (hzs : z.cells.size = size) (hsz : 0 < size)
    {B : Option Addr} {n cb : Nat} {xs : List Value} (hown : Own base e size w B n cb xs) {A : Option Addr} {m c : Nat} {news : List Value} (hs : SrcAt w A m size news)
    (h63 : n + m ≤ maxLen) (hbytes : (n + m) * bytes ≤ 140737488355328) (hbase : base ≤ w.heap.size) :
    ∃ B' cb' w', (Builtin.append_ #[t, t] ty #[.slice B n cb, .slice A m c]).run P w = .ok (.slice B' (n + m) cb') w' ∧ Own base e size w' B' (n + m) cb' (xs ++ news) ∧ Below base w w' ∧ Kept w w' B := by
  obtain ⟨h1, h2, h3⟩ := hs
  rcases h3 with ⟨rfl, rfl⟩ | ⟨ad, rfl, h3⟩
  · have e1 : news = [] := List.eq_nil_of_length_eq_zero (by simpa using h1)
    subst e1
    refine ⟨B, cb, w, ?_, by simpa using hown, Below.refl _ _, Nat.le_refl _, fun _ _ _ => rfl⟩
    have hle : n ≤ cb := by
      rcases hown.2 with ⟨h4, _⟩ | ⟨g, cap, cur, h4, _, _, hnc, _⟩
      · simp at h4; omega
      · simp at h4; omega
    rcases hown.2 with ⟨h4, h5⟩ | ⟨g, cap, cur, h4, _, _, hnc, _⟩
    · simp at h4
      obtain ⟨rfl, rfl, rfl⟩ := h4
      simp [Builtin.append_, run_underlying ht, sizeOf, typeInfo, hi, Builtin.lenOf, Builtin.firstCells]
    · simp at h4
      obtain ⟨rfl, rfl⟩ := h4
      simp [Builtin.append_, run_underlying ht, sizeOf, typeInfo, hi, Builtin.lenOf, Builtin.firstCells, hnc, storeCells]
  · obtain ⟨v', w', hr, ho, hg, _⟩ := run_append_own (P := P) w base t ty e i z size bytes ht hi hz hsize hby hzs hsz _ n xs hown ad m c news h1 h3 h2 h63 hbytes hbase
    have hB : Below base w w' := ⟨hg.os, hg.tape, hg.output, hg.size, fun k hk => hg.block k (by omega) fun he => by have := (hown.lt k he.symm).1; omega⟩
    have hK : Kept w w' B := ⟨hg.size, fun k hk hne => hg.block k hk fun he => hne (by
      cases B with
      | none => simp [Value.ownBlock] at he
      | some b => simpa [Value.ownBlock] using he.symm)⟩
    rcases ho.2 with ⟨rfl, h5⟩ | ⟨g, cap, cur, rfl, _⟩
    · exact ⟨none, 0, w', by rw [hr, h5], by rw [h5] at ho ⊢; exact ho, hB, hK⟩
    · exact ⟨some ⟨g, 0, none⟩, cap, w', hr, ho, hB, hK⟩

theorem wp_append_my {P : Program} {w : World} {o : Oper} {a : Act} {K : Act → World → Prop} {Q : Exit → Act → World → Prop} (s x : Operand) (t : TypeId)
    (ho : o.op = .call { callee := .builtin .append, args := #[s, x], argTypes := #[t, t] })
    {base : Nat} {e : TypeId} {i : TypeInfo} {z : Value} {size bytes : Nat} (ht : P.underlying t = some (.slice e)) (hi : P.info? e = some i) (hz : i.zero = some z)
    (hsize : i.size = size) (hby : i.bytes = bytes) (hzs : z.cells.size = size) (hsz : 0 < size)
    {B : Option Addr} {n cb : Nat} {xs : List Value} (hss : a.eval s = .slice B n cb) (hown : Own base e size w B n cb xs) {A : Option Addr} {m c : Nat} {news : List Value} (hx : a.eval x = .slice A m c) (hs : SrcAt w A m size news)
    (h63 : n + m ≤ maxLen) (hbytes : (n + m) * bytes ≤ 140737488355328) (hbase : base ≤ w.heap.size)
    (h : ∀ B' cb' w', Own base e size w' B' (n + m) cb' (xs ++ news) → Below base w w' → Kept w w' B → K (a.put o.dst (.slice B' (n + m) cb')) w') : o.wp P a w K Q := by
  obtain ⟨B', cb', w', hr, h2, h3, h4⟩ := run_append_my (P := P) (ty := o.type) (c := c) ht hi hz hsize hby hzs hsz hown hs h63 hbytes hbase
  unfold Oper.wp execOp
  simp only [ho, resolve, invoke, builtin, Sem.run_bind, Sem.run_pure, Result.andThen_ok, List.map_toArray, List.map_cons, List.map_nil, hss, hx, hr]
  exact h B' cb' w' h2 h3 h4

/-- At a step of a region that draws. -/
theorem step_append_my {P : Program} {w : World} {ops : Array Oper} {o : Oper} {a : Act} {K : Act → World → Prop} {Q : Exit → Act → World → Prop} {E : Prop} (hw : Region.wanted o (yielded ops a.tmps) = true) (s x : Operand) (t : TypeId)
    (ho : o.op = .call { callee := .builtin .append, args := #[s, x], argTypes := #[t, t] })
    {base : Nat} {e : TypeId} {i : TypeInfo} {z : Value} {size bytes : Nat} (ht : P.underlying t = some (.slice e)) (hi : P.info? e = some i) (hz : i.zero = some z)
    (hsize : i.size = size) (hby : i.bytes = bytes) (hzs : z.cells.size = size) (hsz : 0 < size)
    {B : Option Addr} {n cb : Nat} {xs : List Value} (hss : a.eval s = .slice B n cb) (hown : Own base e size w B n cb xs) {A : Option Addr} {m c : Nat} {news : List Value} (hx : a.eval x = .slice A m c) (hs : SrcAt w A m size news)
    (h63 : n + m ≤ maxLen) (hbytes : (n + m) * bytes ≤ 140737488355328) (hbase : base ≤ w.heap.size)
    (h : ∀ B' cb' w', Own base e size w' B' (n + m) cb' (xs ++ news) → Below base w w' → Kept w w' B → K (a.put o.dst (.slice B' (n + m) cb')) w') :
    if Region.wanted o (yielded ops a.tmps) = true then Oper.wp P o a w K Q else E := by
  rw [if_pos hw]
  exact wp_append_my s x t ho ht hi hz hsize hby hzs hsz hss hown hx hs h63 hbytes hbase h

/-- The cells of a row of units. -/
def UL (w : World) : List Un → List Value → Prop
  | [], L => L = []
  | u :: us, L => ∃ A' n' c' L', L = [.int .i64 u.bus, .int .i64 u.mn, .slice A' n' c', .int .i64 u.up, .int .i64 u.dn, .int .i64 u.start, .int .i64 u.idle, .int .i64 u.spin, .int .i64 u.on] ++ L' ∧ StAt w A' n' u.st ∧ n' ≤ 1000000000000 ∧ UL w us L'
theorem UL.below {w w' : World} (hb : Below w.heap.size w w') : ∀ {us : List Un} {L : List Value}, UL w us L → UL w' us L
  | [], _, h => h
  | u :: us, _, ⟨A', n', c', L', h1, h2, h3, h4⟩ => ⟨A', n', c', L', h1, h2.below hb, h3, UL.below hb h4⟩
theorem UL.app {w : World} : ∀ {us vs : List Un} {L M : List Value}, UL w us L → UL w vs M → UL w (us ++ vs) (L ++ M)
  | [], _, _, _, h, h' => by rw [h]; simpa using h'
  | u :: us, _, _, _, ⟨A', n', c', L', h1, h2, h3, h4⟩, h' => ⟨A', n', c', _, by rw [h1, List.append_assoc], h2, h3, UL.app h4 h'⟩
theorem UL.len {w : World} : ∀ {us : List Un} {L : List Value}, UL w us L → L.length = us.length * 9
  | [], _, h => by rw [h]; rfl
  | u :: us, _, ⟨A', n', c', L', h1, h2, h3, h4⟩ => by rw [h1, List.length_append, UL.len h4]; simp; omega
theorem UL.one {w : World} : ∀ {us : List Un} {L : List Value}, UL w us L → ∀ u ∈ L, u.oneCell' = true
  | [], _, h => by rw [h]; simp
  | u :: us, _, ⟨A', n', c', L', h1, h2, h3, h4⟩ => by
    intro x hx
    rw [h1, List.mem_append] at hx
    rcases hx with hx | hx
    · simp at hx
      rcases hx with rfl | rfl | rfl | rfl | rfl | rfl | rfl | rfl | rfl <;> rfl
    · exact UL.one h4 x hx
theorem UL.get {w : World} : ∀ {us : List Un} {L : List Value}, UL w us L → ∀ j, j < us.length → ∃ A' n' c', ∀ u, u = us[j]?.getD U0 → (L[j * 9]? = some (.int .i64 u.bus) ∧ L[j * 9 + 1]? = some (.int .i64 u.mn) ∧ L[j * 9 + 2]? = some (.slice A' n' c') ∧ L[j * 9 + 3]? = some (.int .i64 u.up) ∧ L[j * 9 + 4]? = some (.int .i64 u.dn) ∧ L[j * 9 + 5]? = some (.int .i64 u.start) ∧ L[j * 9 + 6]? = some (.int .i64 u.idle) ∧ L[j * 9 + 7]? = some (.int .i64 u.spin) ∧ L[j * 9 + 8]? = some (.int .i64 u.on)) ∧ StAt w A' n' u.st ∧ n' ≤ 1000000000000
  | [], _, _, j, hj => absurd hj (by simp)
  | u :: us, _, ⟨A', n', c', L', h1, h2, h3, h4⟩, 0, _ => ⟨A', n', c', fun v hv => by subst hv; rw [h1]; exact ⟨by simp, h2, h3⟩⟩
  | u :: us, _, ⟨A', n', c', L', h1, h2, h3, h4⟩, j + 1, hj => by
    obtain ⟨B, k, d, hg⟩ := UL.get h4 j (by simpa using hj)
    refine ⟨B, k, d, fun v hv => ?_⟩
    obtain ⟨hc, hs⟩ := hg v (by simpa using hv)
    refine ⟨?_, hs⟩
    have e : ∀ i, ([.int .i64 u.bus, .int .i64 u.mn, .slice A' n' c', .int .i64 u.up, .int .i64 u.dn, .int .i64 u.start, .int .i64 u.idle, .int .i64 u.spin, .int .i64 u.on] ++ L')[(j + 1) * 9 + i]? = L'[j * 9 + i]? := fun i => by
      rw [List.getElem?_append_right (by simp; omega)]
      congr 1
      simp
      omega
    have e0 := e 0
    rw [h1, show (j + 1) * 9 = (j + 1) * 9 + 0 from rfl, e 0, e 1, e 2, e 3, e 4, e 5, e 6, e 7, e 8]
    exact hc
theorem ul_of {w : World} {b : Nat} : ∀ {us : List Un} {o : Nat}, (∀ j, j < us.length → UnCells w b (o + j * 9) (us[j]?.getD U0)) → ∃ L, UL w us L ∧ ∀ j u, L[j]? = some u → w.cell? ⟨b, o + j, none⟩ = some u
  | [], o, _ => ⟨[], rfl, by simp⟩
  | u :: us, o, h => by
    obtain ⟨L, hL, hc⟩ := ul_of (us := us) (o := o + 9) (fun j hj => by
      have := h (j + 1) (by simpa using hj)
      rw [show o + (j + 1) * 9 = o + 9 + j * 9 by omega] at this
      simpa using this)
    obtain ⟨A', n', c', ⟨h0, h1, h2, h3, h4, h5, h6, h7, h8⟩, hs, hn⟩ := h 0 (by simp)
    simp at h0 h1 h2 h3 h4 h5 h6 h7 h8 hs
    refine ⟨_, ⟨A', n', c', L, rfl, hs, hn, hL⟩, fun j v hv => ?_⟩
    by_cases hj : j < 9
    · rw [List.getElem?_append_left (by simpa using hj)] at hv
      match j, hj with
      | 0, _ => simp at hv; subst hv; exact h0
      | 1, _ => simp at hv; subst hv; exact h1
      | 2, _ => simp at hv; subst hv; exact h2
      | 3, _ => simp at hv; subst hv; exact h3
      | 4, _ => simp at hv; subst hv; exact h4
      | 5, _ => simp at hv; subst hv; exact h5
      | 6, _ => simp at hv; subst hv; exact h6
      | 7, _ => simp at hv; subst hv; exact h7
      | 8, _ => simp at hv; subst hv; exact h8
    · rw [List.getElem?_append_right (by simp; omega)] at hv
      have := hc _ _ hv
      simp at this
      rw [show o + j = o + 9 + (j - 9) by omega]
      exact this
theorem UsAt.src {w : World} {A : Option Addr} {n : Nat} {us : List Un} (h : UsAt w A n us) : ∃ L, UL w us L ∧ SrcAt w A n 9 L := by
  by_cases hn : n = 0
  · subst hn
    have e : us = [] := List.eq_nil_of_length_eq_zero h.1
    subst e
    refine ⟨[], rfl, rfl, by simp, ?_⟩
    cases A with
    | none => exact Or.inl ⟨rfl, rfl⟩
    | some ad => exact Or.inr ⟨ad, rfl, by simp⟩
  · obtain ⟨b, o, rfl, hlt, hc⟩ := h.2 hn
    obtain ⟨L, hL, hg⟩ := ul_of (us := us) (o := o) (fun j hj => hc j (by have := h.1; omega))
    exact ⟨L, hL, by rw [hL.len, h.1], hL.one, Or.inr ⟨_, rfl, fun j u hu => by rw [addr_add]; exact hg j u hu⟩⟩
theorem Own.units {base : Nat} {e : TypeId} {w : World} {A : Option Addr} {n c : Nat} {L : List Value} {us : List Un} (h : Own base e 9 w A n c L) (hu : UL w us L) (hl : us.length = n) : UsAt w A n us := by
  refine ⟨hl, fun hn => ?_⟩
  obtain ⟨g, cap, hv, hb, hlt⟩ := World.ownsRow.form h (by omega)
  simp at hv
  obtain ⟨rfl, rfl⟩ := hv
  refine ⟨g, 0, rfl, hlt, fun j hj => ?_⟩
  obtain ⟨A', n', c', hg⟩ := hu.get j (by omega)
  obtain ⟨⟨h0, h1, h2, h3, h4, h5, h6, h7, h8⟩, hs, hn'⟩ := hg _ rfl
  have hc := fun i hi => World.ownsRow.cellAt h (j * 9 + i) hi
  rw [Nat.zero_add]
  exact ⟨A', n', c', ⟨(hc 0 (by omega)).trans h0, (hc 1 (by omega)).trans h1, (hc 2 (by omega)).trans h2, (hc 3 (by omega)).trans h3, (hc 4 (by omega)).trans h4, (hc 5 (by omega)).trans h5, (hc 6 (by omega)).trans h6, (hc 7 (by omega)).trans h7, (hc 8 (by omega)).trans h8⟩, hs, hn'⟩
theorem BsAt.src {w : World} {A : Option Addr} {n : Nat} {bs : List Bool} (h : BsAt w A n bs) : SrcAt w A n 1 (bs.map Value.bool) := by
  refine ⟨by simp [h.1], fun u hu => by obtain ⟨x, _, rfl⟩ := List.mem_map.1 hu; rfl, ?_⟩
  by_cases hn : n = 0
  · subst hn
    have e : bs = [] := List.eq_nil_of_length_eq_zero h.1
    subst e
    cases A with
    | none => exact Or.inl ⟨rfl, rfl⟩
    | some ad => exact Or.inr ⟨ad, rfl, by simp⟩
  · obtain ⟨b, o, rfl, hlt, hc⟩ := h.2 hn
    refine Or.inr ⟨_, rfl, fun j u hu => ?_⟩
    have hj : j < bs.length := by
      have := (List.getElem?_eq_some_iff.1 hu).1
      simpa using this
    rw [addr_add, hc j (by have := h.1; omega), ← hu]
    simp [hj]
theorem IsAt.src {w : World} {A : Option Addr} {n : Nat} {xs : List Int} (h : IsAt w A n xs) : SrcAt w A n 1 (xs.map (Value.int .i64)) := by
  refine ⟨by simp [h.1], fun u hu => by obtain ⟨x, _, rfl⟩ := List.mem_map.1 hu; rfl, ?_⟩
  by_cases hn : n = 0
  · subst hn
    have e : xs = [] := List.eq_nil_of_length_eq_zero h.1
    subst e
    cases A with
    | none => exact Or.inl ⟨rfl, rfl⟩
    | some ad => exact Or.inr ⟨ad, rfl, by simp⟩
  · obtain ⟨b, o, rfl, hlt, hc⟩ := h.2 hn
    refine Or.inr ⟨_, rfl, fun j u hu => ?_⟩
    have hj : j < xs.length := by
      have := (List.getElem?_eq_some_iff.1 hu).1
      simpa using this
    rw [addr_add, hc j (by have := h.1; omega), ← hu]
    simp [hj]
theorem Own.bools {base : Nat} {e : TypeId} {w : World} {A : Option Addr} {n c : Nat} {bs : List Bool} (h : Own base e 1 w A n c (bs.map Value.bool)) : BsAt w A n bs := by
  have hl : bs.length = n := by have := h.1; simpa using this
  refine ⟨hl, fun hn => ?_⟩
  obtain ⟨g, cap, hv, hb, hlt⟩ := World.ownsRow.form h (by omega)
  simp at hv
  obtain ⟨rfl, rfl⟩ := hv
  refine ⟨g, 0, rfl, hlt, fun j hj => ?_⟩
  rw [Nat.zero_add, World.ownsRow.cellAt h j (by omega)]
  simp [show j < bs.length by omega]
theorem Own.ints {base : Nat} {e : TypeId} {w : World} {A : Option Addr} {n c : Nat} {xs : List Int} (h : Own base e 1 w A n c (xs.map (Value.int .i64))) : IsAt w A n xs := by
  have hl : xs.length = n := by have := h.1; simpa using this
  refine ⟨hl, fun hn => ?_⟩
  obtain ⟨g, cap, hv, hb, hlt⟩ := World.ownsRow.form h (by omega)
  simp at hv
  obtain ⟨rfl, rfl⟩ := hv
  refine ⟨g, 0, rfl, hlt, fun j hj => ?_⟩
  rw [Nat.zero_add, World.ownsRow.cellAt h j (by omega)]
  simp [show j < xs.length by omega]
theorem Own.keep {base : Nat} {e : TypeId} {size : Nat} {w w' : World} {A : Option Addr} {n c : Nat} {xs : List Value} (h : Own base e size w A n c xs) (hb : Below w.heap.size w w') : Own base e size w' A n c xs := by
  refine ⟨h.1, ?_⟩
  rcases h.2 with h2 | ⟨g, cap, cur, h2, h3, h4, h5⟩
  · exact Or.inl h2
  · exact Or.inr ⟨g, cap, cur, h2, h3, (hb.block g (Array.getElem?_eq_some_iff.1 h4).1).trans h4, h5⟩
/-- The first k and what lies behind them. -/
theorem UsAt.take {w : World} {A : Option Addr} {n k : Nat} {us : List Un} (h : UsAt w A n us) (hk : k ≤ n) : UsAt w A k (us.take k) := by
  refine ⟨by simp [h.1, hk], fun h0 => ?_⟩
  obtain ⟨b, o, e, hlt, hc⟩ := h.2 (by omega)
  exact ⟨b, o, e, hlt, fun j hj => by rw [List.getElem?_take, if_pos hj]; exact hc j (by omega)⟩
theorem BsAt.take {w : World} {A : Option Addr} {n k : Nat} {us : List Bool} (h : BsAt w A n us) (hk : k ≤ n) : BsAt w A k (us.take k) := by
  refine ⟨by simp [h.1, hk], fun h0 => ?_⟩
  obtain ⟨b, o, e, hlt, hc⟩ := h.2 (by omega)
  exact ⟨b, o, e, hlt, fun j hj => by rw [List.getElem?_take, if_pos hj]; exact hc j (by omega)⟩
theorem IsAt.take {w : World} {A : Option Addr} {n k : Nat} {us : List Int} (h : IsAt w A n us) (hk : k ≤ n) : IsAt w A k (us.take k) := by
  refine ⟨by simp [h.1, hk], fun h0 => ?_⟩
  obtain ⟨b, o, e, hlt, hc⟩ := h.2 (by omega)
  exact ⟨b, o, e, hlt, fun j hj => by rw [List.getElem?_take, if_pos hj]; exact hc j (by omega)⟩
theorem UsAt.drop {w : World} {A A' : Option Addr} {n k : Nat} {us : List Un} (h : UsAt w A n us) (hk : k ≤ n) (hA : k < n → ∀ b o, A = some ⟨b, o, none⟩ → A' = some ⟨b, o + k * 9, none⟩) : UsAt w A' (n - k) (us.drop k) := by
  refine ⟨by simp [h.1], fun h0 => ?_⟩
  obtain ⟨b, o, e, hlt, hc⟩ := h.2 (by omega)
  refine ⟨b, o + k * 9, hA (by omega) b o e, hlt, fun j hj => ?_⟩
  rw [List.getElem?_drop, show o + k * 9 + j * 9 = o + (k + j) * 9 by omega]
  exact hc (k + j) (by omega)
theorem BsAt.drop {w : World} {A A' : Option Addr} {n k : Nat} {us : List Bool} (h : BsAt w A n us) (hk : k ≤ n) (hA : k < n → ∀ b o, A = some ⟨b, o, none⟩ → A' = some ⟨b, o + k, none⟩) : BsAt w A' (n - k) (us.drop k) := by
  refine ⟨by simp [h.1], fun h0 => ?_⟩
  obtain ⟨b, o, e, hlt, hc⟩ := h.2 (by omega)
  refine ⟨b, o + k, hA (by omega) b o e, hlt, fun j hj => ?_⟩
  rw [List.getElem?_drop, show o + k + j = o + (k + j) by omega]
  exact hc (k + j) (by omega)
theorem IsAt.drop {w : World} {A A' : Option Addr} {n k : Nat} {us : List Int} (h : IsAt w A n us) (hk : k ≤ n) (hA : k < n → ∀ b o, A = some ⟨b, o, none⟩ → A' = some ⟨b, o + k, none⟩) : IsAt w A' (n - k) (us.drop k) := by
  refine ⟨by simp [h.1], fun h0 => ?_⟩
  obtain ⟨b, o, e, hlt, hc⟩ := h.2 (by omega)
  refine ⟨b, o + k, hA (by omega) b o e, hlt, fun j hj => ?_⟩
  rw [List.getElem?_drop, show o + k + j = o + (k + j) by omega]
  exact hc (k + j) (by omega)

theorem SrcAt.below {w w' : World} {A : Option Addr} {m size : Nat} {news : List Value} (h : SrcAt w A m size news) (hb : Below w.heap.size w w') : SrcAt w' A m size news := by
  refine ⟨h.1, h.2.1, ?_⟩
  rcases h.2.2 with h3 | ⟨ad, h3, h4⟩
  · exact Or.inl h3
  · exact Or.inr ⟨ad, h3, fun j u hu => (hb.cell (World.block_lt_of_cell? w _ (h4 j u hu))).trans (h4 j u hu)⟩
theorem slice_lo {P : Program} {t e : TypeId} (ht : P.underlying t = some (.slice e)) {i : TypeInfo} (hi : P.info? e = some i) (A : Option Addr) (n c j : Nat) (hj : j ≤ c) :
    ∃ A1, (∀ W, (Instr.sliceAt t (.slice A n c) none (some (.int .i64 (j : Int))) none).run P W = .ok (.slice A1 j c) W) ∧ ∀ b o, A = some ⟨b, o, none⟩ → A1 = some ⟨b, o, none⟩ := by
  refine ⟨if c = 0 then A else A.map (·.add 0), fun W => ?_, ?_⟩
  · simp [Instr.sliceAt, Instr.slice, run_underlying ht, go_sem, hj, sizeOf, typeInfo, hi]
  · rintro b o rfl
    simp [addr_add]
theorem slice_hi {P : Program} {t e : TypeId} (ht : P.underlying t = some (.slice e)) {i : TypeInfo} (hi : P.info? e = some i) (A : Option Addr) (n c j : Nat) (hj : j ≤ n) (hn : n ≤ c) :
    ∃ A1, (∀ W, (Instr.sliceAt t (.slice A n c) (some (.int .i64 (j : Int))) none none).run P W = .ok (.slice A1 (n - j) (c - j)) W) ∧ (j < n → ∀ b o, A = some ⟨b, o, none⟩ → A1 = some ⟨b, o + j * i.size, none⟩) := by
  refine ⟨if c = j then A else A.map (·.add (j * i.size)), fun W => ?_, ?_⟩
  · simp [Instr.sliceAt, Instr.slice, run_underlying ht, go_sem, hj, hn, sizeOf, typeInfo, hi]
  · rintro h b o rfl
    rw [if_neg (by omega)]
    simp [addr_add]
theorem Own.made {base : Nat} {e : TypeId} {size : Nat} (w : World) (hb : base ≤ w.heap.size) : Own base e size (w.alloc (.cells #[] e)) (some ⟨w.heap.size, 0, none⟩) 0 0 [] :=
  World.ownsRow_made w #[] 0 hb (Nat.zero_le _) (by simp)
theorem Kept.blk {w w' : World} {A : Option Addr} {g : Nat} {t : TypeId} {cs : Array Value} (h : Kept w w' A) (hb : Blk w g t cs) (hne : A.map (fun a => a.block) ≠ some g) : Blk w' g t cs := (h.2 g hb.lt hne).trans hb
theorem Blk.src {w : World} {g : Nat} {t : TypeId} {cs : Array Value} {m size : Nat} (h : Blk w g t cs) (hs : cs.size = m * size) (h1 : ∀ u ∈ cs.toList, u.oneCell' = true) : SrcAt w (some ⟨g, 0, none⟩) m size cs.toList :=
  ⟨by simpa using hs, h1, Or.inr ⟨_, rfl, World.news_of_block h⟩⟩

end Go.Proofs.YtdoeejcmaeefcaaGreat

namespace Go.Proofs.YtdoeejcmaeefcaaGreat
set_option linter.unusedVariables false
set_option linter.unusedSimpArgs false
open Go.RowKit
open Wd

theorem Own.nil (base : Nat) (e : TypeId) (size : Nat) (w : World) : Own base e size w none 0 0 [] := ⟨by simp, Or.inl ⟨rfl, rfl⟩⟩
theorem Own.far {base base' : Nat} {e e' : TypeId} {size size' : Nat} {w w' : World} {A B : Option Addr} {n c m d : Nat} {xs ys : List Value} (h : Own base e size w A n c xs) (h' : Own base' e' size' w B m d ys) (hne : e ≠ e') (hk : Kept w w' B) : Own base e size w' A n c xs := by
  refine ⟨h.1, ?_⟩
  rcases h.2 with h2 | ⟨g, cap, cur, h2, h3, h4, h5⟩
  · exact Or.inl h2
  · refine Or.inr ⟨g, cap, cur, h2, h3, (hk.2 g (Array.getElem?_eq_some_iff.1 h4).1 fun hB => ?_).trans h4, h5⟩
    rcases h'.2 with ⟨h6, _⟩ | ⟨g', cap', cur', h6, _, h7, _⟩
    · simp at h6
      rw [h6.1] at hB
      simp at hB
    · simp at h6
      rw [h6.1] at hB
      simp at hB
      rw [hB, h4] at h7
      simp at h7
      exact hne h7.2
theorem Own.ne {base : Nat} {e : TypeId} {size : Nat} {w : World} {A : Option Addr} {n c : Nat} {xs : List Value} (h : Own base e size w A n c xs) {g : Nat} (hg : w.heap.size ≤ g) : A.map (fun a => a.block) ≠ some g := by
  intro hA
  rcases h.2 with ⟨h6, _⟩ | ⟨g', cap', cur', h6, _, h7, _⟩
  · simp at h6
    rw [h6.1] at hA
    simp at hA
  · simp at h6
    rw [h6.1] at hA
    simp at hA
    have := (Array.getElem?_eq_some_iff.1 h7).1
    omega
theorem Own.aside {base : Nat} {e : TypeId} {size : Nat} {w : World} {A : Option Addr} {n c : Nat} {xs : List Value} (h : Own base e size w A n c xs) {p : Addr} (hp : p.block < base) (v : Value) : Own base e size (w.setCell p v) A n c xs := by
  refine ⟨h.1, ?_⟩
  rcases h.2 with h2 | ⟨g, cap, cur, h2, h3, h4, h5⟩
  · exact Or.inl h2
  · exact Or.inr ⟨g, cap, cur, h2, h3, Blk.far (t := e) (cs := cur) h4 (by omega) v, h5⟩

/-- At a step of a list of operations. -/
theorem wpList_append_my {P : Program} {w : World} {ops : Array Oper} {rest : List Oper} {o : Oper} {a : Act} {Q : Exit → Act → World → Prop} (hg : o.guard = none) (s x : Operand) (t : TypeId)
    (ho : o.op = .call { callee := .builtin .append, args := #[s, x], argTypes := #[t, t] })
    {base : Nat} {e : TypeId} {i : TypeInfo} {z : Value} {size bytes : Nat} (ht : P.underlying t = some (.slice e)) (hi : P.info? e = some i) (hz : i.zero = some z)
    (hsize : i.size = size) (hby : i.bytes = bytes) (hzs : z.cells.size = size) (hsz : 0 < size)
    {B : Option Addr} {n cb : Nat} {xs : List Value} (hss : a.eval s = .slice B n cb) (hown : Own base e size w B n cb xs) {A : Option Addr} {m c : Nat} {news : List Value} (hx : a.eval x = .slice A m c) (hs : SrcAt w A m size news)
    (h63 : n + m ≤ maxLen) (hbytes : (n + m) * bytes ≤ 140737488355328) (hbase : base ≤ w.heap.size)
    (h : ∀ B' cb' w', Own base e size w' B' (n + m) cb' (xs ++ news) → Below base w w' → Kept w w' B → wpList P ops Q rest (a.put o.dst (.slice B' (n + m) cb')) w') :
    wpList P ops Q (o :: rest) a w :=
  wpList_plain hg fun K hK => wp_append_my s x t ho ht hi hz hsize hby hzs hsz hss hown hx hs h63 hbytes hbase fun B' cb' w' h1 h2 h3 => hK _ _ (h B' cb' w' h1 h2 h3)

end Go.Proofs.YtdoeejcmaeefcaaGreat
