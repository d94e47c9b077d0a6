/-
The statement EnergyPermutation: rows of the call's own, and the walk's early ends. No statement of the seat is proved here; no conditions beyond those of each theorem.
-/
import Derived.Test.YthpldmlpononhaaGreatM2
namespace Go.Proofs.YthpldmlpononhaaGreat
set_option linter.unusedVariables false
set_option linter.unusedSimpArgs false
open Go.RowKit
open Wd
open En (Pc PU)

theorem pinfo_unit : (Tryz.prog.info? 48).map (fun i => (i.zero, i.size, i.bytes)) = some (some (.agg #[.int .i64 0, .int .i64 0, .slice none 0 0, .int .i64 0, .int .i64 0, .int .i64 0, .int .i64 0, .int .i64 0, .int .i64 0]), 9, 88) := by kernel_rfl
theorem pinfo_bool : (Tryz.prog.info? 4).map (fun i => (i.zero, i.size, i.bytes)) = some (some (.bool false), 1, 1) := by kernel_rfl
theorem pbool_one {b : Bool} : ∀ u ∈ (#[.bool b] : Array Value).toList, u.oneCell' = true := by
  intro u hu
  simp at hu
  rw [hu]
  rfl
theorem punit_one {bus mn up dn start idle spin on : Int} {A' : Option Addr} {n' c' : Nat} : ∀ u ∈ (#[.int .i64 bus, .int .i64 mn, .slice A' n' c', .int .i64 up, .int .i64 dn, .int .i64 start, .int .i64 idle, .int .i64 spin, .int .i64 on] : Array Value).toList, u.oneCell' = true := by
  intro u hu
  simp at hu
  rcases hu with rfl | rfl | rfl | rfl | rfl | rfl | rfl | rfl | rfl <;> rfl

theorem Own.nil (base : Nat) (e : TypeId) (size : Nat) (w : World) : Own base e size w none 0 0 [] := ⟨by simp, Or.inl ⟨rfl, rfl⟩⟩
theorem Own.far {base base' : Nat} {e e' : TypeId} {size size' : Nat} {w w' : World} {A B : Option Addr} {n c m d : Nat} {xs ys : List Value} (h : Own base e size w A n c xs) (h' : Own base' e' size' w B m d ys) (hne : e ≠ e') (hk : Kept w w' B) : Own base e size w' A n c xs := by
  refine ⟨h.1, ?_⟩
  rcases h.2 with h2 | ⟨g, cap, cur, h2, h3, h4, h5⟩
  · exact Or.inl h2
  · refine Or.inr ⟨g, cap, cur, h2, h3, (hk.2 g (Array.getElem?_eq_some_iff.1 h4).1 fun hB => ?_).trans h4, h5⟩
    rcases h'.2 with ⟨h6, _⟩ | ⟨g', cap', cur', h6, _, h7, _⟩
    · simp at h6
      rw [h6.1] at hB
      simp at hB
    · simp at h6
      rw [h6.1] at hB
      simp at hB
      rw [hB, h4] at h7
      simp at h7
      exact hne h7.2
theorem Own.ne {base : Nat} {e : TypeId} {size : Nat} {w : World} {A : Option Addr} {n c : Nat} {xs : List Value} (h : Own base e size w A n c xs) {g : Nat} (hg : w.heap.size ≤ g) : A.map (fun a => a.block) ≠ some g := by
  intro hA
  rcases h.2 with ⟨h6, _⟩ | ⟨g', cap', cur', h6, _, h7, _⟩
  · simp at h6
    rw [h6.1] at hA
    simp at hA
  · simp at h6
    rw [h6.1] at hA
    simp at hA
    have := (Array.getElem?_eq_some_iff.1 h7).1
    omega
theorem Own.aside {base : Nat} {e : TypeId} {size : Nat} {w : World} {A : Option Addr} {n c : Nat} {xs : List Value} (h : Own base e size w A n c xs) {p : Addr} (hp : p.block < base) (v : Value) : Own base e size (w.setCell p v) A n c xs := by
  refine ⟨h.1, ?_⟩
  rcases h.2 with h2 | ⟨g, cap, cur, h2, h3, h4, h5⟩
  · exact Or.inl h2
  · exact Or.inr ⟨g, cap, cur, h2, h3, Blk.far (t := e) (cs := cur) h4 (by omega) v, h5⟩

/-- At a step of a list of operations. -/
theorem wpList_append_my {P : Program} {w : World} {ops : Array Oper} {rest : List Oper} {o : Oper} {a : Act} {Q : Exit → Act → World → Prop} (hg : o.guard = none) (s x : Operand) (t : TypeId)
    (ho : o.op = .call { callee := .builtin .append, args := #[s, x], argTypes := #[t, t] })
    {base : Nat} {e : TypeId} {i : TypeInfo} {z : Value} {size bytes : Nat} (ht : P.underlying t = some (.slice e)) (hi : P.info? e = some i) (hz : i.zero = some z)
    (hsize : i.size = size) (hby : i.bytes = bytes) (hzs : z.cells.size = size) (hsz : 0 < size)
    {B : Option Addr} {n cb : Nat} {xs : List Value} (hss : a.eval s = .slice B n cb) (hown : Own base e size w B n cb xs) {A : Option Addr} {m c : Nat} {news : List Value} (hx : a.eval x = .slice A m c) (hs : SrcAt w A m size news)
    (h63 : n + m ≤ maxLen) (hbytes : (n + m) * bytes ≤ 140737488355328) (hbase : base ≤ w.heap.size)
    (h : ∀ B' cb' w', Own base e size w' B' (n + m) cb' (xs ++ news) → Below base w w' → Kept w w' B → wpList P ops Q rest (a.put o.dst (.slice B' (n + m) cb')) w') :
    wpList P ops Q (o :: rest) a w :=
  wpList_plain hg fun K hK => wp_append_my s x t ho ht hi hz hsize hby hzs hsz hss hown hx hs h63 hbytes hbase fun B' cb' w' h1 h2 h3 => hK _ _ (h B' cb' w' h1 h2 h3)

theorem rot_get {α : Type} (d : α) (k i : Nat) (l : List α) (hi : i < l.length) : (rot (k % l.length) l)[i]?.getD d = l[(i + k) % l.length]?.getD d := by
  have hk : k % l.length < l.length := Nat.mod_lt _ (by omega)
  have e : (i + k) % l.length = (i + k % l.length) % l.length := by rw [Nat.add_mod_mod]
  rw [e]
  unfold rot
  generalize k % l.length = q at *
  by_cases h : i < l.length - q
  · rw [List.getElem?_append_left (by simpa using h), List.getElem?_drop, Nat.mod_eq_of_lt (by omega), Nat.add_comm]
  · rw [List.getElem?_append_right (by simp; omega), List.length_drop, List.getElem?_take_of_lt (by omega)]
    have : (i + q) % l.length = i + q - l.length := by
      rw [Nat.mod_eq_sub_mod (by omega), Nat.mod_eq_of_lt (by omega)]
    rw [this, show i - (l.length - q) = i + q - l.length by omega]
theorem take_more {α : Type} (d : α) {l : List α} {i : Nat} (hi : i < l.length) : l.take (i + 1) = l.take i ++ [l[i]?.getD d] := by
  rw [List.take_add_one, List.getElem?_eq_getElem hi]
  rfl

set_option maxRecDepth 100000 in
set_option maxHeartbeats 8000000 in
theorem perm_long (A B : Option Addr) (n c m d : Nat) (us : List Un) (bs : List Bool) (f : Int) (bus mn up dn start idle spin on : Int) (A' : Option Addr) (n' c' : Nat) (l : List (Int × Int)) (k : Nat) (hk : k < 256) (w : World) (h : UsRaw w A n us) (h' : BsAt w B m bs) (hs : StAt w A' n' l) (hlg : longB us m = true) : Calls Tryz.prog 16 #[.slice A n c, .slice B m d, .int .i64 f, .int .u8 (k : Int), .agg #[.int .i64 bus, .int .i64 mn, .slice A' n' c', .int .i64 up, .int .i64 dn, .int .i64 start, .int .i64 idle, .int .i64 spin, .int .i64 on]] w fun e w' => e = .returned (.bool true) ∧ Below w.heap.size w w' := by
  have T1 := fun W (hW : Below w.heap.size w W) => long28_any A B n c m d us bs W (h.below hW) h'.1
  rw [hlg] at T1
  have HL1 := Lib.hid T1
  have HAW := Lib.hid (fun W => awake28_any W)
  clear h h' hs T1 hlg
  go_enter Tryz.func16, Tryz.ntmps16
  go_wp2_with fail
  have hB0 := Blk.new w 48 #[.int .i64 bus, .int .i64 mn, .slice A' n' c', .int .i64 up, .int .i64 dn, .int .i64 start, .int .i64 idle, .int .i64 spin, .int .i64 on]
  have hBW : Below w.heap.size w (w.alloc (.cells #[.int .i64 bus, .int .i64 mn, .slice A' n' c', .int .i64 up, .int .i64 dn, .int .i64 start, .int .i64 idle, .int .i64 spin, .int .i64 on] 48)) := (Below.refl _ _).alloc (Nat.le_refl _) _
  have hsz : (w.alloc (.cells #[.int .i64 bus, .int .i64 mn, .slice A' n' c', .int .i64 up, .int .i64 dn, .int .i64 start, .int .i64 idle, .int .i64 spin, .int .i64 on] 48)).heap.size = w.heap.size + 1 := by simp
  generalize w.alloc (.cells #[.int .i64 bus, .int .i64 mn, .slice A' n' c', .int .i64 up, .int .i64 dn, .int .i64 start, .int .i64 idle, .int .i64 spin, .int .i64 on] 48) = W at *
  have HSZ := Lib.hid hsz
  clear hsz
  refine (HL1.out W hBW).mono ?_
  rintro e w1 ⟨rfl, rfl⟩
  clear HL1
  go_wp2_with fail
  refine (HAW.out _).mono ?_
  rintro e w9 ⟨rfl, hb9⟩
  have HB9 := Lib.hid (hBW.trans (hb9.mono hBW.size))
  clear hb9
  go_wp2
  go_ret
  exact ⟨rfl, HB9.out⟩

set_option maxRecDepth 100000 in
set_option maxHeartbeats 8000000 in
theorem perm_long2 (A B : Option Addr) (n c m d : Nat) (us : List Un) (bs : List Bool) (f : Int) (bus mn up dn start idle spin on : Int) (A' : Option Addr) (n' c' : Nat) (l : List (Int × Int)) (k : Nat) (hk : k < 256) (w : World) (h : UsRaw w A n us) (h' : BsAt w B m bs) (hs : StAt w A' n' l) (hlg : longB us m = false) (hlg2 : longB [⟨bus, mn, l, up, dn, start, idle, spin, on⟩] 0 = true) : Calls Tryz.prog 16 #[.slice A n c, .slice B m d, .int .i64 f, .int .u8 (k : Int), .agg #[.int .i64 bus, .int .i64 mn, .slice A' n' c', .int .i64 up, .int .i64 dn, .int .i64 start, .int .i64 idle, .int .i64 spin, .int .i64 on]] w fun e w' => e = .returned (.bool true) ∧ Below w.heap.size w w' := by
  have T1 := fun W (hW : Below w.heap.size w W) => long28_any A B n c m d us bs W (h.below hW) h'.1
  rw [hlg] at T1
  have HL1 := Lib.hid T1
  have HAW := Lib.hid (fun W => awake28_any W)
  have HSS := Lib.hid hs
  clear h h' hs T1 hlg
  go_enter Tryz.func16, Tryz.ntmps16
  go_wp2_with fail
  have hB0 := Blk.new w 48 #[.int .i64 bus, .int .i64 mn, .slice A' n' c', .int .i64 up, .int .i64 dn, .int .i64 start, .int .i64 idle, .int .i64 spin, .int .i64 on]
  have hBW : Below w.heap.size w (w.alloc (.cells #[.int .i64 bus, .int .i64 mn, .slice A' n' c', .int .i64 up, .int .i64 dn, .int .i64 start, .int .i64 idle, .int .i64 spin, .int .i64 on] 48)) := (Below.refl _ _).alloc (Nat.le_refl _) _
  have hsz : (w.alloc (.cells #[.int .i64 bus, .int .i64 mn, .slice A' n' c', .int .i64 up, .int .i64 dn, .int .i64 start, .int .i64 idle, .int .i64 spin, .int .i64 on] 48)).heap.size = w.heap.size + 1 := by simp
  generalize w.alloc (.cells #[.int .i64 bus, .int .i64 mn, .slice A' n' c', .int .i64 up, .int .i64 dn, .int .i64 start, .int .i64 idle, .int .i64 spin, .int .i64 on] 48) = W at *
  have HSZ := Lib.hid hsz
  clear hsz
  refine (HL1.out W hBW).mono ?_
  rintro e w1 ⟨rfl, rfl⟩
  clear HL1
  obtain ⟨y0, y1, y2, y3, y4, y5, y6, y7, y8⟩ := hB0.nine
  have hU2 := one_us (Blk.new W 48 #[.int .i64 bus, .int .i64 mn, .slice A' n' c', .int .i64 up, .int .i64 dn, .int .i64 start, .int .i64 idle, .int .i64 spin, .int .i64 on]) ((HSS.out.below hBW).below ((Below.refl _ _).alloc (Nat.le_refl _) (.cells #[.int .i64 bus, .int .i64 mn, .slice A' n' c', .int .i64 up, .int .i64 dn, .int .i64 start, .int .i64 idle, .int .i64 spin, .int .i64 on] 48)))
  have T2 := long28_any (some ⟨W.heap.size, 0, none⟩) none 1 1 0 0 [⟨bus, mn, l, up, dn, start, idle, spin, on⟩] [] _ hU2 rfl
  rw [hlg2] at T2
  clear hlg2
  have HT2 := Lib.hid T2
  have hB1 := hB0.alloc (.cells #[.int .i64 bus, .int .i64 mn, .slice A' n' c', .int .i64 up, .int .i64 dn, .int .i64 start, .int .i64 idle, .int .i64 spin, .int .i64 on] 48)
  have hBV := hBW.trans (((Below.refl W.heap.size W).alloc (Nat.le_refl _) (.cells #[.int .i64 bus, .int .i64 mn, .slice A' n' c', .int .i64 up, .int .i64 dn, .int .i64 start, .int .i64 idle, .int .i64 spin, .int .i64 on] 48)).mono hBW.size)
  clear T2 hU2 hB0
  go_wp2_with fail
  refine HT2.out.mono ?_
  rintro e w1 ⟨rfl, rfl⟩
  clear HT2 y0 y1 y2 y3 y4 y5 y6 y7 y8
  have hBV := Lib.hid hBV
  generalize W.alloc (.cells #[.int .i64 bus, .int .i64 mn, .slice A' n' c', .int .i64 up, .int .i64 dn, .int .i64 start, .int .i64 idle, .int .i64 spin, .int .i64 on] 48) = V at *
  clear hBW HSZ
  obtain ⟨y0, y1, y2, y3, y4, y5, y6, y7, y8⟩ := hB1.nine
  go_wp2_with fail
  refine (HAW.out _).mono ?_
  rintro e w9 ⟨rfl, hb9⟩
  have HB9 := Lib.hid (hBV.out.trans (hb9.mono hBV.out.size))
  clear hb9
  go_wp2
  go_ret
  exact ⟨rfl, HB9.out⟩

set_option maxRecDepth 100000 in
set_option maxHeartbeats 8000000 in
theorem perm_check (A B : Option Addr) (n c m d : Nat) (us : List Un) (bs : List Bool) (f : Int) (bus mn up dn start idle spin on : Int) (A' : Option Addr) (n' c' : Nat) (l : List (Int × Int)) (k : Nat) (hk : k < 256) (w : World) (h : UsRaw w A n us) (h' : BsAt w B m bs) (hs : StAt w A' n' l) (hlg : longB us m = false) (hlg2 : longB [⟨bus, mn, l, up, dn, start, idle, spin, on⟩] 0 = false) (he : echk us m ≠ 0) : Calls Tryz.prog 16 #[.slice A n c, .slice B m d, .int .i64 f, .int .u8 (k : Int), .agg #[.int .i64 bus, .int .i64 mn, .slice A' n' c', .int .i64 up, .int .i64 dn, .int .i64 start, .int .i64 idle, .int .i64 spin, .int .i64 on]] w fun e w' => e = .returned (.bool true) ∧ Below w.heap.size w w' := by
  have T1 := fun W (hW : Below w.heap.size w W) => long28_any A B n c m d us bs W (h.below hW) h'.1
  rw [hlg] at T1
  have HL1 := Lib.hid T1
  have HAW := Lib.hid (fun W => awake28_any W)
  have HSS := Lib.hid hs
  obtain ⟨hU, hn30, hm30⟩ := h.at hlg
  have hn20 : n' ≤ 20 := by
    unfold longB at hlg2
    simp [longL] at hlg2
    have := hs.1
    omega
  have HCK := Lib.hid (fun W (hW : Below w.heap.size w W) => ucheck_raw bus mn up dn start idle spin on A' n' c' l W (hs.below hW) (by omega))
  have HEC := Lib.hid (fun W (hW : Below w.heap.size w W) => echeck_any A B n c m d us bs W (hU.below hW) (h'.below hW) (by omega) (by omega))
  generalize echk us m = x at *
  have dx : (x != 0) = true := by simpa using he
  clear h h' hs T1 hlg hU HCK he
  go_enter Tryz.func16, Tryz.ntmps16
  go_wp2_with fail
  have hB0 := Blk.new w 48 #[.int .i64 bus, .int .i64 mn, .slice A' n' c', .int .i64 up, .int .i64 dn, .int .i64 start, .int .i64 idle, .int .i64 spin, .int .i64 on]
  have hBW : Below w.heap.size w (w.alloc (.cells #[.int .i64 bus, .int .i64 mn, .slice A' n' c', .int .i64 up, .int .i64 dn, .int .i64 start, .int .i64 idle, .int .i64 spin, .int .i64 on] 48)) := (Below.refl _ _).alloc (Nat.le_refl _) _
  have hsz : (w.alloc (.cells #[.int .i64 bus, .int .i64 mn, .slice A' n' c', .int .i64 up, .int .i64 dn, .int .i64 start, .int .i64 idle, .int .i64 spin, .int .i64 on] 48)).heap.size = w.heap.size + 1 := by simp
  generalize w.alloc (.cells #[.int .i64 bus, .int .i64 mn, .slice A' n' c', .int .i64 up, .int .i64 dn, .int .i64 start, .int .i64 idle, .int .i64 spin, .int .i64 on] 48) = W at *
  have HSZ := Lib.hid hsz
  clear hsz
  refine (HL1.out W hBW).mono ?_
  rintro e w1 ⟨rfl, rfl⟩
  clear HL1
  obtain ⟨y0, y1, y2, y3, y4, y5, y6, y7, y8⟩ := hB0.nine
  have hU2 := one_us (Blk.new W 48 #[.int .i64 bus, .int .i64 mn, .slice A' n' c', .int .i64 up, .int .i64 dn, .int .i64 start, .int .i64 idle, .int .i64 spin, .int .i64 on]) ((HSS.out.below hBW).below ((Below.refl _ _).alloc (Nat.le_refl _) (.cells #[.int .i64 bus, .int .i64 mn, .slice A' n' c', .int .i64 up, .int .i64 dn, .int .i64 start, .int .i64 idle, .int .i64 spin, .int .i64 on] 48)))
  have T2 := long28_any (some ⟨W.heap.size, 0, none⟩) none 1 1 0 0 [⟨bus, mn, l, up, dn, start, idle, spin, on⟩] [] _ hU2 rfl
  rw [hlg2] at T2
  clear hlg2
  have HT2 := Lib.hid T2
  have hB1 := hB0.alloc (.cells #[.int .i64 bus, .int .i64 mn, .slice A' n' c', .int .i64 up, .int .i64 dn, .int .i64 start, .int .i64 idle, .int .i64 spin, .int .i64 on] 48)
  have hBV := hBW.trans (((Below.refl W.heap.size W).alloc (Nat.le_refl _) (.cells #[.int .i64 bus, .int .i64 mn, .slice A' n' c', .int .i64 up, .int .i64 dn, .int .i64 start, .int .i64 idle, .int .i64 spin, .int .i64 on] 48)).mono hBW.size)
  clear T2 hU2 hB0
  go_wp2_with fail
  refine HT2.out.mono ?_
  rintro e w1 ⟨rfl, rfl⟩
  clear HT2 y0 y1 y2 y3 y4 y5 y6 y7 y8
  have hBV := Lib.hid hBV
  generalize W.alloc (.cells #[.int .i64 bus, .int .i64 mn, .slice A' n' c', .int .i64 up, .int .i64 dn, .int .i64 start, .int .i64 idle, .int .i64 spin, .int .i64 on] 48) = V at *
  clear hBW HSZ
  obtain ⟨y0, y1, y2, y3, y4, y5, y6, y7, y8⟩ := hB1.nine
  go_wp2_with fail
  refine (HEC.out V hBV.out).mono ?_
  rintro e v1 ⟨rfl, hb1⟩
  have HB1 := Lib.hid (hBV.out.trans (hb1.mono hBV.out.size))
  have hB2 := hB1.below hb1 hB1.lt
  clear hb1 HEC y0 y1 y2 y3 y4 y5 y6 y7 y8 hB1
  go_wp2_with fail
  refine (HAW.out _).mono ?_
  rintro e w9 ⟨rfl, hb9⟩
  have HB9 := Lib.hid (HB1.out.trans (hb9.mono HB1.out.size))
  clear hb9
  go_wp2
  go_ret
  exact ⟨rfl, HB9.out⟩

end Go.Proofs.YthpldmlpononhaaGreat
