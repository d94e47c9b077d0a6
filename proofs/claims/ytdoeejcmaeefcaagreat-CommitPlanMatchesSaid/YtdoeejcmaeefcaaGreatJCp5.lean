/-
Package commit: move. No statement of the seat is proved here; no conditions beyond those of each theorem.
-/
import Derived.Test.YtdoeejcmaeefcaaGreatHV
namespace Go.Proofs.YtdoeejcmaeefcaaGreat
set_option linter.unusedVariables false
set_option linter.unusedSimpArgs false
open Go.RowKit
open Wd
open Cm

theorem Kp.set2 {W w' : World} (h : Kp W w') {g : Nat} (hg : W.heap.size ≤ g) (a b : Value) : Kp W ((w'.setCell ⟨g, 0, none⟩ a).setCell ⟨g, 1, none⟩ b) := (h.set (p := ⟨g, 0, none⟩) hg a).set (p := ⟨g, 1, none⟩) hg b
section
variable {w : World} {g : Nat} {t : TypeId} {a0 a1 a2 a3 a4 a5 : Value}
def st6 (w : World) (g : Nat) (b0 b1 b2 b3 b4 b5 : Value) : World := (((((w.setCell ⟨g, 0, none⟩ b0).setCell ⟨g, 1, none⟩ b1).setCell ⟨g, 2, none⟩ b2).setCell ⟨g, 3, none⟩ b3).setCell ⟨g, 4, none⟩ b4).setCell ⟨g, 5, none⟩ b5
theorem Blk.six (h : Blk w g t #[a0, a1, a2, a3, a4, a5]) : w.cell? ⟨g, 0, none⟩ = some a0 ∧ w.cell? ⟨g, 1, none⟩ = some a1 ∧ w.cell? ⟨g, 2, none⟩ = some a2 ∧ w.cell? ⟨g, 3, none⟩ = some a3 ∧ w.cell? ⟨g, 4, none⟩ = some a4 ∧ w.cell? ⟨g, 5, none⟩ = some a5 := ⟨h.cell 0, h.cell 1, h.cell 2, h.cell 3, h.cell 4, h.cell 5⟩
theorem Blk.frz6 (h : Blk w g t #[a0, a1, a2, a3, a4, a5]) : w.frozen? ⟨g, 0, none⟩ = false ∧ w.frozen? ⟨g, 1, none⟩ = false ∧ w.frozen? ⟨g, 2, none⟩ = false ∧ w.frozen? ⟨g, 3, none⟩ = false ∧ w.frozen? ⟨g, 4, none⟩ = false ∧ w.frozen? ⟨g, 5, none⟩ = false := ⟨h.frozen 0, h.frozen 1, h.frozen 2, h.frozen 3, h.frozen 4, h.frozen 5⟩
theorem Blk.set6 (h : Blk w g t #[a0, a1, a2, a3, a4, a5]) (b0 b1 b2 b3 b4 b5 : Value) : Blk (st6 w g b0 b1 b2 b3 b4 b5) g t #[b0, b1, b2, b3, b4, b5] := (((((h.set 0 b0).set 1 b1).set 2 b2).set 3 b3).set 4 b4).set 5 b5
theorem below_set6 {B : Nat} {w0 : World} (h : Below B w0 w) (hg : B ≤ g) (b0 b1 b2 b3 b4 b5 : Value) : Below B w0 (st6 w g b0 b1 b2 b3 b4 b5) :=
  (((((h.setCell (p := ⟨g, 0, none⟩) hg b0).setCell (p := ⟨g, 1, none⟩) hg b1).setCell (p := ⟨g, 2, none⟩) hg b2).setCell (p := ⟨g, 3, none⟩) hg b3).setCell (p := ⟨g, 4, none⟩) hg b4).setCell (p := ⟨g, 5, none⟩) hg b5
end
theorem mvK_bd {us : List Un} {ss : List Int} {bs : List Bool} (hu : ∀ u ∈ us, uchk u = 0) : ∀ {k : Nat} {r : List Int} {x : Int}, k ≤ us.length → mvK us ss bs k = some (r, x) → r.length = k ∧ 0 ≤ x ∧ x ≤ 2000000000 * k
  | 0, r, x, _, h => by
    rw [mvK] at h
    simp only [Option.some.injEq, Prod.mk.injEq] at h
    obtain ⟨rfl, rfl⟩ := h
    simp
  | k + 1, r, x, hk, h => by
    rw [mvK] at h
    split at h
    · simp at h
    · rename_i r0 x0 e
      obtain ⟨i1, i2, i3⟩ := mvK_bd hu (by omega) e
      split at h
      · simp at h
      · rename_i t e2
        simp only [Option.some.injEq, Prod.mk.injEq] at h
        obtain ⟨rfl, rfl⟩ := h
        have hv := uchk_rest (hu _ (gmem (d := U0) (show k < us.length by omega)))
        unfold ufx
        refine ⟨by simp [i1], ?_, ?_⟩ <;> split <;> (try split) <;> push_cast <;> omega
theorem mvK_none {us : List Un} {ss : List Int} {bs : List Bool} {k : Nat} (h : mvK us ss bs k = none) : ∀ d, mvK us ss bs (k + d) = none
  | 0 => h
  | d + 1 => by rw [← Nat.add_assoc, mvK, mvK_none h d]
theorem ptC_put {h t : Int} {r : List Int} (hr : r.length < 5) : (ptC h r).setIfInBounds (1 + r.length) (.int .i64 t) = ptC h (r ++ [t]) := by
  unfold ptC
  match r, hr with
  | [], _ => rfl
  | [a], _ => rfl
  | [a, b], _ => rfl
  | [a, b, c], _ => rfl
  | [a, b, c, d], _ => rfl
/-- The result of move. -/
def mvV (h : Nat) (o : Option (List Int × Int)) : Value :=
  match o with
  | none => .tuple #[ptV 0 [], .int .i64 0, .bool false]
  | some (ss, x) => .tuple #[ptV ((h + 1 : Nat) : Int) ss, .int .i64 x, .bool true]
/-- The search in memory. -/
structure SrAt (us : List Un) (R : List Row) (gs : Nat) (A : Option Addr) (n cu m : Nat) (As : Option Addr) (ca mb : Nat) (w : World) : Prop where
  blk : ∃ cs, Blk w gs 98 cs ∧ SrC us A n cu m As ca mb cs
  units : UsAt w A n us
  sup : SupAt w As m (2 ^ n) R
  ok : ∀ u ∈ us, uchk u = 0
  n5 : n ≤ 5
  m8 : m ≤ 8
  rb : ∀ (j c : Nat) (x : Int), (R[j]?.getD [])[c]?.getD none = some x → x.natAbs ≤ 45000000000000

set_option maxRecDepth 100000 in
set_option maxHeartbeats 8000000 in
theorem move_raw (us : List Un) (R : List Row) (gs : Nat) (A : Option Addr) (n cu m : Nat) (As : Option Addr) (ca mb : Nat) (h : Nat) (ss : List Int) (c : Nat) (w : World) (hS : SrAt us R gs A n cu m As ca mb w) (hh : h < m) (hc : c < 2 ^ n) (hp : PtOk n ss) (hst : ∀ i, i < n → StOk (us[i]?.getD U0) (ss[i]?.getD 0)) :
    Calls Tryz.prog 40 #[.pointer (some ⟨gs, 0, none⟩), ptV (h : Int) ss, .int .i64 (c : Int)] w fun e w' => e = .returned (mvV h (mv us (R[h]?.getD []) ss c)) ∧ Below w.heap.size w w' := by
  obtain ⟨cs, hblk, hsr⟩ := hS.blk
  obtain ⟨bs, os, rfl, hbs, hrow⟩ := hS.sup.2 (by omega)
  obtain ⟨g, cc, r0, hg, rc⟩ := hrow h hh
  obtain ⟨rc0, rc1⟩ := rc c hc
  have hgs := hblk.lt
  have e2 := (hblk.cell 2).trans hsr.sup
  have HSR := Lib.hid hsr
  have HBL := Lib.hid hblk
  have HUS := Lib.hid hS.units
  have HOK := Lib.hid hS.ok
  have hn5 := hS.n5
  have hm8 := hS.m8
  have HRB := Lib.hid hS.rb
  have HP := Lib.hid hp
  have HST := Lib.hid hst
  have HC := Lib.hid hc
  have hN : 2 ^ n ≤ 32 := Nat.le_trans (Nat.pow_le_pow_right (by decide) hn5) (by decide)
  have hcN : (c : Int) < ((2 ^ n : Nat) : Int) := by omega
  generalize hmv : mv us (R[h]?.getD []) ss c = res at *
  have HMV := Lib.hid hmv
  generalize hsv : ((R[h]?.getD [])[c]?.getD none).isSome = sv at *
  generalize hsx : ((R[h]?.getD [])[c]?.getD none).getD 0 = sx at *
  have HSV := Lib.hid (And.intro hsv hsx)
  clear hrow rc hsr hblk hS hp hst hmv hsv hsx
  unfold ptV ptC
  generalize hNe : 2 ^ n = N at *
  have HCC := Lib.hid (show c < 2 ^ n by rw [hNe]; exact hc)
  clear hNe
  generalize hs0 : ss[0]?.getD 0 = s0 at *
  generalize hs1 : ss[1]?.getD 0 = s1 at *
  generalize hs2 : ss[2]?.getD 0 = s2 at *
  generalize hs3 : ss[3]?.getD 0 = s3 at *
  generalize hs4 : ss[4]?.getD 0 = s4 at *
  have HSS := Lib.hid (And.intro hs0 (And.intro hs1 (And.intro hs2 (And.intro hs3 hs4))))
  clear hs0 hs1 hs2 hs3 hs4
  have i1 : (0 : Int) ≤ (h : Int) := by omega
  have i2 : (h : Int) < (m : Int) := by omega
  have i3 : (0 : Int) ≤ (c : Int) := by omega
  have k1 := (Kp.refl w).alloc (.cells #[.int .i64 (h : Int), .int .i64 s0, .int .i64 s1, .int .i64 s2, .int .i64 s3, .int .i64 s4] 71)
  have k2 := k1.alloc (.cells #[.int .i64 0, .int .i64 0, .int .i64 0, .int .i64 0, .int .i64 0, .int .i64 0] 71)
  have hB4 := (Blk.new w 71 #[.int .i64 (h : Int), .int .i64 s0, .int .i64 s1, .int .i64 s2, .int .i64 s3, .int .i64 s4]).alloc (.cells #[.int .i64 0, .int .i64 0, .int .i64 0, .int .i64 0, .int .i64 0, .int .i64 0] 71)
  have hB6 := Blk.new (w.alloc (.cells #[.int .i64 (h : Int), .int .i64 s0, .int .i64 s1, .int .i64 s2, .int .i64 s3, .int .i64 s4] 71)) 71 #[.int .i64 0, .int .i64 0, .int .i64 0, .int .i64 0, .int .i64 0, .int .i64 0]
  simp only [World.size_alloc] at hB6
  go_enter Tryz.func40, Tryz.ntmps40
  go_wp2_with fail
  generalize (w.alloc (.cells #[.int .i64 (h : Int), .int .i64 s0, .int .i64 s1, .int .i64 s2, .int .i64 s3, .int .i64 s4] 71)).alloc (.cells #[.int .i64 0, .int .i64 0, .int .i64 0, .int .i64 0, .int .i64 0, .int .i64 0] 71) = W at *
  have hSS : ∀ w', Kp W w' → (w'.cell? ⟨gs, 2, none⟩ = some (.slice (some ⟨bs, os, none⟩) m ca) ∧ w'.cell? ⟨w.heap.size, 0, none⟩ = some (.int .i64 (h : Int)) ∧ w'.cell? ⟨bs, os + h, none⟩ = some (.slice (some ⟨g, 0, none⟩) N cc) ∧ w'.cell? ⟨g, c * 2, none⟩ = some (.bool sv) ∧ w'.cell? ⟨g, c * 2 + 1, none⟩ = some (.int .i64 sx)) ∧ Kp W w' := fun w' hk => ⟨⟨(Below.cell hk (p := ⟨gs, 2, none⟩) (Nat.lt_of_lt_of_le hgs k2.size)).trans ((Below.cell k2 (p := ⟨gs, 2, none⟩) hgs).trans e2), (hk.blk hB4).cell 0, (Below.cell hk (p := ⟨bs, os + h, none⟩) (Nat.lt_of_lt_of_le hbs k2.size)).trans ((Below.cell k2 (p := ⟨bs, os + h, none⟩) hbs).trans r0), (Below.cell hk (p := ⟨g, c * 2, none⟩) (Nat.lt_of_lt_of_le hg k2.size)).trans ((Below.cell k2 (p := ⟨g, c * 2, none⟩) hg).trans rc0), (Below.cell hk (p := ⟨g, c * 2 + 1, none⟩) (Nat.lt_of_lt_of_le hg k2.size)).trans ((Below.cell k2 (p := ⟨g, c * 2 + 1, none⟩) hg).trans rc1)⟩, hk⟩
  have HS := Lib.hid hSS
  have hk0 := Kp.refl W
  have HK2 := Lib.hid k2
  have HB46 := Lib.hid (And.intro hB4 hB6)
  clear hSS k1 k2 hB4 hB6 e2 r0 rc0 rc1
  have iN : (c : Int) < (N : Int) := hcN
  go_region_held3 (fun w' => (w'.cell? ⟨gs, 2, none⟩ = some (.slice (some ⟨bs, os, none⟩) m ca) ∧ w'.cell? ⟨w.heap.size, 0, none⟩ = some (.int .i64 (h : Int)) ∧ w'.cell? ⟨bs, os + h, none⟩ = some (.slice (some ⟨g, 0, none⟩) N cc) ∧ w'.cell? ⟨g, c * 2, none⟩ = some (.bool sv) ∧ w'.cell? ⟨g, c * 2 + 1, none⟩ = some (.int .i64 sx)) ∧ Kp W w')
    (first | (with_reducible refine HS.out _ ?_; with_reducible assumption) | (with_reducible refine HS.out _ (Kp.drew ?_); with_reducible assumption) | (with_reducible refine' HS.out _ (Kp.drew (And.right ?_)); rotate_left; with_reducible assumption) | (with_reducible refine' HS.out _ (Kp.alloc (And.right ?_) _); rotate_left; with_reducible assumption) | (with_reducible refine' HS.out _ (Kp.alloc ?_ _); rotate_left; with_reducible assumption) | (with_reducible refine HS.out _ (Kp.drew (Kp.alloc ?_ _)); with_reducible assumption) | ((with_reducible refine' HS.out _ (Kp.set2 (And.right ?_) ?_ _ _)); rotate_left; (with_reducible assumption); exact Nat.le_refl _))
    (fail)
  have hV : Kp W (W.alloc (.cells #[.bool sv, .int .i64 sx] 101)).drew := Kp.drew ((Kp.refl W).alloc _)
  have hV9 : Blk (W.alloc (.cells #[.bool sv, .int .i64 sx] 101)).drew W.heap.size 101 #[.bool sv, .int .i64 sx] := Blk.drew (Blk.new W 101 _)
  generalize (W.alloc (.cells #[.bool sv, .int .i64 sx] 101)).drew = V at *
  generalize hg9 : W.heap.size = g9 at *
  have hz : w.heap.size + 1 < g9 := by rw [← hg9]; exact HB46.out.2.lt
  have HV := Lib.hid (Kp.trans HK2.out hV)
  have hB4 := Kp.blk hV HB46.out.1
  have hB6 := Kp.blk hV HB46.out.2
  obtain ⟨y0, y1⟩ := (show V.cell? ⟨g9, 0, none⟩ = some (.bool sv) ∧ V.cell? ⟨g9, 1, none⟩ = some (.int .i64 sx) from ⟨hV9.cell 0, hV9.cell 1⟩)
  rename_i hHeld
  clear hHeld hk0 HS hV HB46 HK2 hg9 hV9
  cases sv with
  | false =>
    have hnone : (R[h]?.getD [])[c]?.getD none = none := by
      have := HSV.out.1
      cases hx : (R[h]?.getD [])[c]?.getD none with
      | none => rfl
      | some v => rw [hx] at this; simp at this
    have HE := Lib.hid (show res = none by rw [← HMV.out]; unfold mv; rw [hnone])
    obtain ⟨f0, f1, f2, f3, f4, f5⟩ := hB6.frz6
    obtain ⟨d0, d1, d2, d3, d4, d5⟩ := (hB6.set6 (.int .i64 0) (.int .i64 0) (.int .i64 0) (.int .i64 0) (.int .i64 0) (.int .i64 0)).six
    have hnf : (!false) = true := rfl
    have HF := Lib.hid (below_set6 HV.out (g := w.heap.size + 1) (by omega) (.int .i64 0) (.int .i64 0) (.int .i64 0) (.int .i64 0) (.int .i64 0) (.int .i64 0))
    obtain ⟨c0, c1, c2, c3, c4, c5⟩ := hB6.six
    clear hB4 hB6 HV HMV HSV HSS
    go_wp2
    refine bodyPost_ret (v := .tuple #[.agg #[.int .i64 0, .int .i64 0, .int .i64 0, .int .i64 0, .int .i64 0, .int .i64 0], .int .i64 0, .bool false]) ?_ rfl ⟨by rw [HE.out]; rfl, HF.out⟩
    unfold st6 at d0 d1 d2 d3 d4 d5
    simp [results, Tryz.results40, go_sem, d0, d1, d2, d3, d4, d5]
  | true =>
    have hsome : (R[h]?.getD [])[c]?.getD none = some sx := by
      obtain ⟨h1, h2⟩ := HSV.out
      cases hx : (R[h]?.getD [])[c]?.getD none with
      | none => rw [hx] at h1; simp at h1
      | some v => rw [hx] at h2; simp at h2; rw [h2]
    have nul : us.length = n := HUS.out.1
    have HM := Lib.hid (show (match mvK us ss (bitsN n c) n with | none => none | some (r, x) => some (r, sx + x)) = res by rw [← HMV.out]; unfold mv; rw [hsome, nul]; rfl)
    have hsb := HRB.out _ _ _ hsome
    have w1 : IntKind.i64.wrap ((h : Int) + 1) = (h : Int) + 1 := IntWalk.i64_in _ (by omega)
    have hnf : (!true) = false := rfl
    have HPC := Lib.hid (show ∀ k, k < 5 → V.cell? ⟨w.heap.size, 1 + k, none⟩ = some (.int .i64 (ss[k]?.getD 0)) by
      intro k hk
      obtain ⟨e0, e1, e2, e3, e4⟩ := HSS.out
      rw [hB4.cell (1 + k)]
      match k, hk with
      | 0, _ => rw [e0]; rfl
      | 1, _ => rw [e1]; rfl
      | 2, _ => rw [e2]; rfl
      | 3, _ => rw [e3]; rfl
      | 4, _ => rw [e4]; rfl)
    have HSL := Lib.hid (And.intro hB4.lt hB6.lt)
    have kv := (Kp.refl V).alloc (.cells #[.int .i64 ((h : Int) + 1), .int .i64 0, .int .i64 0, .int .i64 0, .int .i64 0, .int .i64 0] 71)
    have hBA := Blk.new V 71 #[.int .i64 ((h : Int) + 1), .int .i64 0, .int .i64 0, .int .i64 0, .int .i64 0, .int .i64 0]
    have HUN := Lib.hid (show V.cell? ⟨gs, 0, none⟩ = some (.slice A n cu) from (Below.cell HV.out (p := ⟨gs, 0, none⟩) hgs).trans ((HBL.out.cell 0).trans HSR.out.units))
    have u0 := (Below.cell kv (p := ⟨gs, 0, none⟩) (Nat.lt_of_lt_of_le hgs HV.out.size)).trans HUN.out
    have HSTA := Lib.hid (And.intro kv hBA)
    obtain ⟨p0, p1, p2, p3, p4, p5⟩ := hB4.six
    have HB6 := Lib.hid hB6
    clear hB4 hB6 HMV HSV HSS hsome kv hBA hc
    go_wp2_with fail
    go_loopw [10, 42] (fun tz t wr => ∃ (k : Nat) (r : List Int) (x : Int), k ≤ n ∧ t = .int .i64 k ∧ tz = .int .i64 (sx + x) ∧ Hid (Kp V wr ∧ Blk wr V.heap.size 71 (ptC ((h : Int) + 1) r) ∧ mvK us ss (bitsN n c) k = some (r, x))) (fun _ t _ => n - (intOf t).toNat)
    case atStart => exact ⟨0, [], 0, Nat.zero_le _, rfl, by simp, HSTA.out.1, HSTA.out.2, rfl⟩
    case round =>
      clear HSTA
      obtain ⟨k, r, x, hk, rfl, rfl, hR⟩ := hrel
      obtain ⟨wu, rfl⟩ : ∃ v, v = wr := ⟨_, rfl⟩
      by_cases hlt : k < n
      · have hk5 : k < 5 := by omega
        obtain ⟨bu, ou, rfl, hbu, hcu⟩ := HUS.out.2 (by omega)
        have hVu := Kp.trans HV.out hR.out.1
        have hu9 := (hcu k hlt).below hbu hVu
        have hkl : k < us.length := by rw [nul]; exact hlt
        have huv := HOK.out _ (gmem (d := U0) hkl)
        obtain ⟨hrl, hx0, hx1⟩ := mvK_bd HOK.out (by omega) hR.out.2.2
        obtain ⟨kk, hkk, n0, n1⟩ := HSR.out.next k hlt (ss[k]?.getD 0) (bitN n c k) (HST.out k hlt)
        have hrest := uchk_rest huv
        have hstk := HST.out k hlt
        have hpc := HPC.out k hk5
        have HMK := Lib.hid (show mvK us ss (bitsN n c) (k + 1) = (match unext (us[k]?.getD U0) (ss[k]?.getD 0) (bitN n c k) with
      | none => none
      | some t => some (r ++ [t], x + ufx (us[k]?.getD U0) (ss[k]?.getD 0) (bitN n c k))) by rw [mvK, hR.out.2.2, bitsN_get hlt]; rfl)
        generalize us[k]?.getD U0 = u at *
        generalize ss[k]?.getD 0 = s at *
        generalize hbb : bitN n c k = bb at *
        generalize hun : unext u s bb = un at *
        obtain ⟨bv, hb1, hb2, hb3, hb4⟩ : ∃ bv : Nat, (if bb = true then (1 : Int) else 0) = (bv : Int) ∧ (if bb = true then 1 else 0 : Nat) = bv ∧ bv < 2 ∧ ((bv : Int) == 1) = bb := by
          cases bb
          · exact ⟨0, rfl, rfl, by omega, rfl⟩
          · exact ⟨1, rfl, rfl, by omega, rfl⟩
        rw [hb2] at n0 n1
        have i9 : (0 : Int) ≤ (bv : Int) := by omega
        have i10 : (bv : Int) < 2 := by omega
        have HBB := Lib.hid hbb
        have HUNX := Lib.hid hun
        obtain ⟨bus, mn, st, up, dn, start, idle, spin, on⟩ := u
        obtain ⟨A', n', c', ⟨h0, h1, h2, h3, h4, h5', h6, h7, h8⟩, hst, hn'⟩ := hu9
        simp only [StOk] at h0 h1 h2 h3 h4 h5' h6 h7 h8 hst hrest hstk
        have i4 : (0 : Int) ≤ (k : Int) := by omega
        have i5 : (k : Int) < (n : Int) := by omega
        have i6 : (k : Int) < 5 := by omega
        have i7 : (0 : Int) ≤ (kk : Int) := by omega
        have i8 : (kk : Int) < 13 := by omega
        have w2 : IntKind.i64.wrap (s + 6) = (kk : Int) := by rw [IntWalk.i64_in _ (by omega)]; omega
        have kb := (Kp.refl wu).alloc (.cells #[.int .i64 bus, .int .i64 mn, .slice A' n' c', .int .i64 up, .int .i64 dn, .int .i64 start, .int .i64 idle, .int .i64 spin, .int .i64 on] 39)
        have hUB := Blk.new wu 39 #[.int .i64 bus, .int .i64 mn, .slice A' n' c', .int .i64 up, .int .i64 dn, .int .i64 start, .int .i64 idle, .int .i64 spin, .int .i64 on]
        have u0 := (Below.cell kb (p := ⟨gs, 0, none⟩) (by have := hVu.size; dsimp only; omega)).trans ((Below.cell hR.out.1 (p := ⟨gs, 0, none⟩) (Nat.lt_of_lt_of_le hgs HV.out.size)).trans HUN.out)
        have T := Lib.hid (bit_raw gs _ n cu c k (wu.alloc (.cells #[.int .i64 bus, .int .i64 mn, .slice A' n' c', .int .i64 up, .int .i64 dn, .int .i64 start, .int .i64 idle, .int .i64 spin, .int .i64 on] 39)) u0 hlt hn5 HCC.out)
        rw [hbb, hb1] at T
        have hgw : gs < wu.heap.size := Nat.lt_of_lt_of_le hgs hVu.size
        have hb4w : w.heap.size < wu.heap.size := Nat.lt_of_lt_of_le HSL.out.1 hR.out.1.size
        have m0 := (Below.cell kb (p := ⟨w.heap.size, 1 + k, none⟩) hb4w).trans ((Below.cell hR.out.1 (p := ⟨w.heap.size, 1 + k, none⟩) HSL.out.1).trans hpc)
        have n0' := (Below.cell kb (p := ⟨gs, 3 + k * 52 + kk * 4 + bv * 2, none⟩) hgw).trans ((hVu.cell (p := ⟨gs, _, none⟩) hgs).trans ((HBL.out.cell _).trans n0))
        have n1' := (Below.cell kb (p := ⟨gs, 3 + k * 52 + kk * 4 + bv * 2 + 1, none⟩) hgw).trans ((hVu.cell (p := ⟨gs, _, none⟩) hgs).trans ((HBL.out.cell _).trans n1))
        have HRR := Lib.hid (And.intro hR.out hVu)
        have HKB := Lib.hid (And.intro kb hUB)
        generalize hok : un.isSome = ok at *
        generalize hot : un.getD 0 = ot at *
        have HOKT := Lib.hid (And.intro hok hot)
        clear hR hcu hVu huv hkl n0 n1 hbb hun hst hok hot hpc kb hUB
        go_wp2_with fail
        refine T.out.mono ?_
        rintro e w2 ⟨rfl, rfl⟩
        clear T u0 h0 h1 h2 h3 h4 h5' h6 h7 h8
        generalize hWB : wu.alloc (.cells #[.int .i64 bus, .int .i64 mn, .slice A' n' c', .int .i64 up, .int .i64 dn, .int .i64 start, .int .i64 idle, .int .i64 spin, .int .i64 on] 39) = WB at *
        have hS : ∀ w', Kp WB w' → (w'.cell? ⟨w.heap.size, 1 + k, none⟩ = some (.int .i64 s) ∧ w'.cell? ⟨gs, 3 + k * 52 + kk * 4 + bv * 2, none⟩ = some (.bool ok) ∧ w'.cell? ⟨gs, 3 + k * 52 + kk * 4 + bv * 2 + 1, none⟩ = some (.int .i64 ot)) ∧ Kp WB w' := fun w' hk => ⟨⟨(Below.cell hk (p := ⟨w.heap.size, 1 + k, none⟩) (Nat.lt_of_lt_of_le hb4w HKB.out.1.size)).trans m0, (Below.cell hk (p := ⟨gs, 3 + k * 52 + kk * 4 + bv * 2, none⟩) (Nat.lt_of_lt_of_le hgw HKB.out.1.size)).trans n0', (Below.cell hk (p := ⟨gs, 3 + k * 52 + kk * 4 + bv * 2 + 1, none⟩) (Nat.lt_of_lt_of_le hgw HKB.out.1.size)).trans n1'⟩, hk⟩
        have HS := Lib.hid hS
        have hk0 := Kp.refl WB
        have HWB := Lib.hid hWB
        have HB1 := Lib.hid (And.intro hb1 (And.intro hb2 hb4))
        have HRST := Lib.hid (And.intro hrest (And.intro hx0 hx1))
        have HRL := Lib.hid (And.intro hrl hkk)
        have HM0 := Lib.hid m0
        have HSB := Lib.hid hsb
        clear hS m0 n0' n1' hWB hb1 hb2 hb4 hrest hx0 hx1 hrl hkk hsb hstk p0 p1 p2 p3 p4 p5 y0 y1 nul w1 i1 i2 i3 hcN iN hN
        go_wp2_with fail
        go_region_held3 (fun w' => (w'.cell? ⟨w.heap.size, 1 + k, none⟩ = some (.int .i64 s) ∧ w'.cell? ⟨gs, 3 + k * 52 + kk * 4 + bv * 2, none⟩ = some (.bool ok) ∧ w'.cell? ⟨gs, 3 + k * 52 + kk * 4 + bv * 2 + 1, none⟩ = some (.int .i64 ot)) ∧ Kp WB w')
          (first | (with_reducible refine HS.out _ ?_; with_reducible assumption) | (with_reducible refine HS.out _ (Kp.drew ?_); with_reducible assumption) | (with_reducible refine' HS.out _ (Kp.drew (And.right ?_)); rotate_left; with_reducible assumption) | (with_reducible refine' HS.out _ (Kp.alloc (And.right ?_) _); rotate_left; with_reducible assumption) | (with_reducible refine' HS.out _ (Kp.alloc ?_ _); rotate_left; with_reducible assumption) | (with_reducible refine HS.out _ (Kp.drew (Kp.alloc ?_ _)); with_reducible assumption) | ((with_reducible refine' HS.out _ (Kp.set2 (And.right ?_) ?_ _ _)); rotate_left; (with_reducible assumption); exact Nat.le_refl _))
          (fail)
        rename_i hHeld
        have hZ9 : Kp WB (WB.alloc (.cells #[.bool ok, .int .i64 ot] 93)).drew := Kp.drew ((Kp.refl WB).alloc _)
        have hBT : Blk (WB.alloc (.cells #[.bool ok, .int .i64 ot] 93)).drew WB.heap.size 93 #[.bool ok, .int .i64 ot] := Blk.drew (Blk.new WB 93 _)
        generalize (WB.alloc (.cells #[.bool ok, .int .i64 ot] 93)).drew = Z at *
        have hgt : wu.heap.size < WB.heap.size := HKB.out.2.lt
        have hmz : Z.cell? ⟨w.heap.size, 1 + k, none⟩ = some (.int .i64 s) := hHeld.1.1
        have hZu : Kp wu Z := Kp.trans HKB.out.1 hZ9
        have hZV : Kp V Z := Kp.trans HRR.out.1.1 hZu
        have hUBZ := Kp.blk hZ9 HKB.out.2
        have hBAZ := Kp.blk hZu HRR.out.1.2.1
        have hB6Z := Kp.blk hZV HB6.out
        have HZw := Lib.hid (Kp.trans HV.out hZV)
        obtain ⟨y0, y1⟩ := (show Z.cell? ⟨WB.heap.size, 0, none⟩ = some (.bool ok) ∧ Z.cell? ⟨WB.heap.size, 1, none⟩ = some (.int .i64 ot) from ⟨hBT.cell 0, hBT.cell 1⟩)
        clear hHeld HS hk0 HM0 hZ9 hBT hgw hb4w
        cases ok with
        | false =>
          have hun0 : un = none := by
            have := HOKT.out.1
            cases un <;> simp_all
          have HE := Lib.hid (show res = none by
            have hm := HMK.out
            rw [hun0] at hm
            have hm2 := mvK_none hm (n - (k + 1))
            rw [show k + 1 + (n - (k + 1)) = n by omega] at hm2
            rw [← HM.out, hm2])
          obtain ⟨f0, f1, f2, f3, f4, f5⟩ := hB6Z.frz6
          obtain ⟨d0, d1, d2, d3, d4, d5⟩ := (hB6Z.set6 (.int .i64 0) (.int .i64 0) (.int .i64 0) (.int .i64 0) (.int .i64 0) (.int .i64 0)).six
          have hnf2 : (!false) = true := rfl
          have HF := Lib.hid (below_set6 HZw.out (g := w.heap.size + 1) (by omega) (.int .i64 0) (.int .i64 0) (.int .i64 0) (.int .i64 0) (.int .i64 0) (.int .i64 0))
          obtain ⟨c0, c1, c2, c3, c4, c5⟩ := hB6Z.six
          clear hB6Z hBAZ hUBZ hZu hZV hmz
          go_wp2
          refine bodyPost_ret (v := .tuple #[.agg #[.int .i64 0, .int .i64 0, .int .i64 0, .int .i64 0, .int .i64 0, .int .i64 0], .int .i64 0, .bool false]) ?_ rfl ⟨by rw [HE.out]; rfl, HF.out⟩
          unfold st6 at d0 d1 d2 d3 d4 d5
          simp [results, Tryz.results40, go_sem, d0, d1, d2, d3, d4, d5]
        | true =>
          have hun1 : un = some ot := by
            obtain ⟨h1, h2⟩ := HOKT.out
            cases un <;> simp_all
          have HE := Lib.hid (show mvK us ss (bitsN n c) (k + 1) = some (r ++ [ot], x + ufx (⟨bus, mn, st, up, dn, start, idle, spin, on⟩ : Un) s bb) by rw [HMK.out, hun1])
          have hz0 : Z.cell? ⟨V.heap.size, 1 + k, none⟩ = (ptC ((h : Int) + 1) r)[1 + k]? := hBAZ.cell (1 + k)
          have hz1 := hBAZ.frozen (1 + k)
          obtain ⟨old, hold⟩ : ∃ v, (ptC ((h : Int) + 1) r)[1 + k]? = some v := ⟨_, Array.getElem?_eq_getElem (show 1 + k < 6 by omega)⟩
          rw [hold] at hz0
          have hrl := HRL.out.1
          have hnew : Blk (Z.setCell ⟨V.heap.size, 1 + k, none⟩ (.int .i64 ot)) V.heap.size 71 (ptC ((h : Int) + 1) (r ++ [ot])) := by
            have h9 := hBAZ.set (1 + k) (.int .i64 ot)
            rw [← hrl] at h9 ⊢
            rwa [ptC_put (by omega)] at h9
          have hnk : Kp V (Z.setCell ⟨V.heap.size, 1 + k, none⟩ (.int .i64 ot)) := hZV.set (p := ⟨V.heap.size, 1 + k, none⟩) (Nat.le_refl _) _
          have hUBN : Blk (Z.setCell ⟨V.heap.size, 1 + k, none⟩ (.int .i64 ot)) wu.heap.size 39 #[.int .i64 bus, .int .i64 mn, .slice A' n' c', .int .i64 up, .int .i64 dn, .int .i64 start, .int .i64 idle, .int .i64 spin, .int .i64 on] := hUBZ.far (p := ⟨V.heap.size, 1 + k, none⟩) (by have := HRR.out.1.2.1.lt; dsimp only; omega) _
          obtain ⟨v0, v1, v2, v3, v4, v5, v6, v7, v8⟩ := hUBN.nine
          have hmz2 : (Z.setCell ⟨V.heap.size, 1 + k, none⟩ (.int .i64 ot)).cell? ⟨w.heap.size, 1 + k, none⟩ = some (.int .i64 s) := (Below.cell (show Below V.heap.size Z (Z.setCell ⟨V.heap.size, 1 + k, none⟩ (.int .i64 ot)) from Below.setCell (Below.refl _ _) (p := ⟨V.heap.size, 1 + k, none⟩) (Nat.le_refl _) _) (p := ⟨w.heap.size, 1 + k, none⟩) HSL.out.1).trans hmz
          have HN := Lib.hid (And.intro hnk hnew)
          have hnf2 : (!true) = false := rfl
          obtain ⟨q0, q1, q2, q3, q4, q5, q6, q7⟩ := (show 0 ≤ start ∧ start ≤ 1000000000 ∧ 0 ≤ idle ∧ idle ≤ 1000000000 ∧ 0 ≤ x ∧ x ≤ 10000000000 ∧ sx ≤ 45000000000000 ∧ -45000000000000 ≤ sx by
            have h1 := HRST.out.1
            have h2 := HRST.out.2
            have h3 := HSB.out
            omega)
          have w3 : IntKind.i64.wrap (sx + x + idle) = sx + x + idle := IntWalk.i64_in _ (by omega)
          have w4 : IntKind.i64.wrap (sx + x + idle + start) = sx + x + idle + start := IntWalk.i64_in _ (by omega)
          have hbv := HB1.out.2.2
          clear hB6Z hBAZ hUBZ hZu hZV hold hrl hnew hnk hUBN q0 q1 q2 q3 q4 q5 q6 q7 hmz
          cases bb with
          | false =>
            go_wp2
            go_roundw
            case rel => exact ⟨k + 1, _, _, by omega, by go_num, by simp [ufx], HN.out.1, HN.out.2, HE.out⟩
            case measure => simp [intOf]; omega
          | true =>
            by_cases hneg : s < 0
            · have hd : decide (s < 0) = true := decide_eq_true hneg
              go_wp2
              go_roundw
              case rel => exact ⟨k + 1, _, _, by omega, by go_num, by simp [ufx, hneg]; omega, HN.out.1, HN.out.2, HE.out⟩
              case measure => simp [intOf]; omega
            · have hd : decide (s < 0) = false := decide_eq_false hneg
              go_wp2
              go_roundw
              case rel => exact ⟨k + 1, _, _, by omega, by go_num, by simp [ufx, hneg]; omega, HN.out.1, HN.out.2, HE.out⟩
              case measure => simp [intOf]; omega
      · obtain rfl : n = k := by omega
        have HE := Lib.hid (show res = some (r, sx + x) by rw [← HM.out, hR.out.2.2])
        have hB6Z := Kp.blk hR.out.1 HB6.out
        have hBA := hR.out.2.1
        unfold ptC at hBA
        generalize hr0 : r[0]?.getD 0 = r0 at *
        generalize hr1 : r[1]?.getD 0 = r1 at *
        generalize hr2 : r[2]?.getD 0 = r2 at *
        generalize hr3 : r[3]?.getD 0 = r3 at *
        generalize hr4 : r[4]?.getD 0 = r4 at *
        have HR4 := Lib.hid (show mvV h (some (r, sx + x)) = .tuple #[.agg #[.int .i64 ((h : Int) + 1), .int .i64 r0, .int .i64 r1, .int .i64 r2, .int .i64 r3, .int .i64 r4], .int .i64 (sx + x), .bool true] by
          unfold mvV ptV ptC
          simp only [hr0, hr1, hr2, hr3, hr4]
          push_cast
          rfl)
        obtain ⟨a0, a1, a2, a3, a4, a5⟩ := hBA.six
        obtain ⟨f0, f1, f2, f3, f4, f5⟩ := hB6Z.frz6
        obtain ⟨d0, d1, d2, d3, d4, d5⟩ := (hB6Z.set6 (.int .i64 ((h : Int) + 1)) (.int .i64 r0) (.int .i64 r1) (.int .i64 r2) (.int .i64 r3) (.int .i64 r4)).six
        have HF := Lib.hid (below_set6 (Kp.trans HV.out hR.out.1) (g := w.heap.size + 1) (by omega) (.int .i64 ((h : Int) + 1)) (.int .i64 r0) (.int .i64 r1) (.int .i64 r2) (.int .i64 r3) (.int .i64 r4))
        obtain ⟨c0, c1, c2, c3, c4, c5⟩ := hB6Z.six
        clear hB6Z hBA hR hr0 hr1 hr2 hr3 hr4 p0 p1 p2 p3 p4 p5 y0 y1 u0
        go_wp2
        refine bodyPost_ret (v := .tuple #[.agg #[.int .i64 ((h : Int) + 1), .int .i64 r0, .int .i64 r1, .int .i64 r2, .int .i64 r3, .int .i64 r4], .int .i64 (sx + x), .bool true]) ?_ rfl ⟨by rw [HE.out, HR4.out], HF.out⟩
        unfold st6 at d0 d1 d2 d3 d4 d5
        simp [results, Tryz.results40, go_sem, d0, d1, d2, d3, d4, d5]

end Go.Proofs.YtdoeejcmaeefcaaGreat
